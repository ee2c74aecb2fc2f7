/- How the laws' arguments read: a slice of numbers, of pairs, of lists of numbers, out of the form's own reading; for every world. -/
import Derived.Test.YtpbngmkhpcgpkaaIsWayPx0
import Derived.ProofKit
import Derived.OpenShut
import Derived.Deep.Matrix
import Derived.Lib.SmallJoins
namespace Go.Proofs.Ytpbngmkhpcgpkaa.P
open Go.RowKit Go.Deep Go.ChangeShapes Go.Joins Go.Proofs.YtpbngmkhpcgpkaaW.PrintWords
set_option linter.unusedVariables false
set_option linter.unusedSimpArgs false
/-- A whole number, a list of them, a list of pairs, a list of lists, as they come in. -/
def FitL (l : List Int) : Prop := l.length ≤ 9223372036854775807 ∧ ∀ n ∈ l, (Lit.int .i64 n).wf = true
def FitP (l : List S68) : Prop := l.length ≤ 9223372036854775807 ∧ ∀ e ∈ l, (Lit.int .i64 e.f0).wf = true ∧ (Lit.int .i64 e.f1).wf = true
def FitLL (l : List (List Int)) : Prop := l.length ≤ 9223372036854775807 ∧ ∀ s ∈ l, FitL s
section
variable {H : Type} {enc : TypeId × Value → H} {W : World} {base : Nat} {held : Bool} {fuel : Nat}

theorem read_ints {v : Value} {y : DataW H × List MemPlace} (h : DataW.trod enc Try.prog W base (fun _ => true) held fuel 34 [v] = some y) :
    ∃ (A : Option Addr) (c : Nat) (l : List Int), v = .slice A l.length c ∧ l.length ≤ c ∧ Kd.C (Kd.int .i64) W A l.length l ∧ FitL l := by
  rcases open_ints Try.underlying34 Try.underlying3 (by kernel_rfl) h with ⟨hcs, _⟩ | ⟨a, len, cap, zs, hcs, _, hl, hm, hz, _, hcell, hwf⟩
  · injection hcs with hv _
    exact ⟨none, 0, [], hv, Nat.le_refl _, ⟨rfl, Nat.zero_le _, fun h0 => absurd h0 (Nat.lt_irrefl _)⟩, ⟨Nat.zero_le _, fun n hn => by cases hn⟩⟩
  · injection hcs with hv _
    simp only [if_true] at hz
    have hlen : (zs.take len).length = len := by rw [List.length_take]; omega
    refine ⟨some a, cap, zs.take len, by rw [hlen]; exact hv, by omega, ⟨rfl, by unfold maxLen at hm; omega, fun _ => ⟨a, rfl, fun j p hj => ⟨[.int .i64 p], rfl, rfl, fun i u hi => ?_⟩⟩⟩, ⟨by rw [hlen]; unfold maxLen at hm; omega, fun n hn => hwf n (List.mem_of_mem_take hn)⟩⟩
    cases i with
    | succ i => simp at hi
    | zero =>
      have hu : Value.int .i64 p = u := by simpa using hi
      subst hu
      have hj2 := (List.getElem?_eq_some_iff.1 hj).1
      rw [hlen] at hj2
      have hj3 : zs[j]? = some p := by rw [List.getElem?_take, if_pos hj2] at hj; exact hj
      have := hcell j (by omega)
      rw [List.getD_eq_getElem?_getD, hj3] at this
      simpa [show (Kd.int .i64).sz = 1 from rfl] using this

theorem read_lists {v : Value} {y : DataW H × List MemPlace} (h : DataW.trod enc Try.prog W base (fun _ => true) held fuel 45 [v] = some y) :
    ∃ (A : Option Addr) (c : Nat) (l : List (List Int)), v = .slice A l.length c ∧ l.length ≤ c ∧ Kd.C (Kd.slice 3 (Kd.int .i64)) W A l.length l ∧ FitLL l := by
  rcases open_int_rows Try.underlying45 Try.underlying34 Try.underlying3 (by kernel_rfl) (by kernel_rfl) h with ⟨hcs, _⟩ | ⟨a, len, cap, Ar, L, C, Z, hcs, _, hl, hm, _, hx⟩
  · injection hcs with hv _
    exact ⟨none, 0, [], hv, Nat.le_refl _, ⟨rfl, Nat.zero_le _, fun h0 => absurd h0 (Nat.lt_irrefl _)⟩, ⟨Nat.zero_le _, fun n hn => by cases hn⟩⟩
  · injection hcs with hv _
    have hlen : ((List.range len).map fun r => (Z r).take (L r)).length = len := by simp
    refine ⟨some a, cap, (List.range len).map fun r => (Z r).take (L r), by rw [hlen]; exact hv, by omega, ⟨rfl, by unfold maxLen at hm; omega, fun _ => ⟨a, rfl, fun j p hj => ?_⟩⟩, ⟨by rw [hlen]; unfold maxLen at hm; omega, ?_⟩⟩
    · have hj2 := (List.getElem?_eq_some_iff.1 hj).1
      rw [hlen] at hj2
      have hp : (Z j).take (L j) = p := by
        rw [List.getElem?_map, List.getElem?_range hj2] at hj
        exact Option.some.inj hj
      subst hp
      obtain ⟨h1, h2, h3, h4, h5, h6, h7⟩ := hx j (by omega)
      have hpl : ((Z j).take (L j)).length = L j := by rw [List.length_take]; omega
      refine ⟨[.slice (Ar j) (L j) (C j)], rfl, ⟨Ar j, C j, by rw [hpl], by omega, ⟨rfl, by unfold maxLen at h3; omega, fun h0 => ?_⟩⟩, fun i u hi => ?_⟩
      · cases ha : Ar j with
        | none => have := h6 ha; omega
        | some a' =>
          refine ⟨a', rfl, fun q p hq => ⟨[.int .i64 p], rfl, rfl, fun i u hi => ?_⟩⟩
          cases i with
          | succ i => simp at hi
          | zero =>
            have hu : Value.int .i64 p = u := by simpa using hi
            subst hu
            have hq2 := (List.getElem?_eq_some_iff.1 hq).1
            rw [hpl] at hq2
            have hq3 : (Z j)[q]? = some p := by rw [List.getElem?_take, if_pos hq2] at hq; exact hq
            have := (h7 a' ha).2 q (by omega)
            rw [List.getD_eq_getElem?_getD, hq3] at this
            simpa [show (Kd.int .i64).sz = 1 from rfl] using this
      · cases i with
        | succ i => simp at hi
        | zero =>
          have hu : Value.slice (Ar j) (L j) (C j) = u := by simpa using hi
          subst hu
          simpa [show (Kd.slice 3 (Kd.int .i64)).sz = 1 from rfl] using h1
    · intro s hs
      rw [List.mem_map] at hs
      obtain ⟨r, hr, rfl⟩ := hs
      have h1 := hx r (by have := List.mem_range.1 hr; omega)
      exact ⟨by have := h1.2.2.1; have := h1.2.2.2.1; unfold maxLen at *; rw [List.length_take]; omega, fun n hn => h1.2.2.2.2.1 n (List.mem_of_mem_take hn)⟩

theorem read_prs {v : Value} {y : DataW H × List MemPlace} (h : DataW.trod enc Try.prog W base (fun _ => true) held fuel 22 [v] = some y) :
    ∃ (A : Option Addr) (c : Nat) (l : List S68), v = .slice A l.length c ∧ l.length ≤ c ∧ Kd.C k68 W A l.length l ∧ FitP l := by
  rcases open_slice Try.underlying22 h with ⟨hcs, _⟩ | ⟨a, len, cap, m, n, D, Pl, hcs, _, hl, hm, hmm, _, hx⟩
  · injection hcs with hv _
    exact ⟨none, 0, [], hv, Nat.le_refl _, ⟨rfl, Nat.zero_le _, fun h0 => absurd h0 (Nat.lt_irrefl _)⟩, ⟨Nat.zero_le _, fun n hn => by cases hn⟩⟩
  · injection hcs with hv _
    have hce : Try.prog.cellsOf 68 = 2 := by kernel_rfl
    have hci : Try.prog.cellsOf 3 = 1 := by kernel_rfl
    have each : ∀ i, i < len → ∃ e : S68, (W.cell? (a.add (i * 2)) = some (.int .i64 e.f0) ∧ W.cell? (a.add (i * 2 + 1)) = some (.int .i64 e.f1)) ∧ (Lit.int .i64 e.f0).wf = true ∧ (Lit.int .i64 e.f1).wf = true := by
      intro i hi
      obtain ⟨cs', h1, h2⟩ := hx i (by simp only [if_true] at hmm; omega)
      rw [hce] at h1
      obtain ⟨_, hcl, hcc⟩ := World.cells?_some h1
      obtain ⟨c0, c1, rfl⟩ : ∃ c0 c1, cs' = [c0, c1] := by
        match cs', hcl with
        | [c0, c1], _ => exact ⟨c0, c1, rfl⟩
      obtain ⟨xs, q, rfl, hq, _, hxl, he⟩ := DataW.trod_array Try.underlying68 h2
      have e0 := he 0 (by omega)
      have e1 := he 1 (by omega)
      simp only [hci] at e0 e1
      obtain ⟨y0, hy0⟩ : ∃ y0, xs[0]? = some y0 := ⟨xs[0], List.getElem?_eq_getElem (by omega)⟩
      obtain ⟨y1, hy1⟩ : ∃ y1, xs[1]? = some y1 := ⟨xs[1], List.getElem?_eq_getElem (by omega)⟩
      rw [hy0] at e0
      rw [hy1] at e1
      obtain ⟨n0, k0, _, w0⟩ := DataW.trod_int Try.underlying3 e0
      obtain ⟨n1, k1, _, w1⟩ := DataW.trod_int Try.underlying3 e1
      simp at k0 k1
      subst k0
      subst k1
      have f0 := hcc 0 (by omega)
      have f1 := hcc 1 (by omega)
      refine ⟨⟨n0, n1⟩, ⟨?_, ?_⟩, w0, w1⟩
      · rw [Addr.add_add, Nat.add_zero] at f0
        simpa using f0
      · rw [Addr.add_add] at f1
        simpa using f1
    have hlen : ((List.range len).map fun i => if hi : i < len then (each i hi).choose else z68).length = len := by simp
    refine ⟨some a, cap, (List.range len).map fun i => if hi : i < len then (each i hi).choose else z68, by rw [hlen]; exact hv, by omega, ⟨rfl, by unfold maxLen at hm; omega, fun _ => ⟨a, rfl, fun j p hj => ?_⟩⟩, ⟨by rw [hlen]; unfold maxLen at hm; omega, ?_⟩⟩
    · have hj2 := (List.getElem?_eq_some_iff.1 hj).1
      rw [hlen] at hj2
      have hp : (each j hj2).choose = p := by
        rw [List.getElem?_map, List.getElem?_range hj2] at hj
        simpa [hj2] using hj
      obtain ⟨⟨h1, h2⟩, _⟩ := (each j hj2).choose_spec
      rw [hp] at h1 h2
      refine ⟨[.int .i64 p.f0, .int .i64 p.f1], rfl, k68_mk W p, fun i u hi => ?_⟩
      rw [show k68.sz = 2 from rfl]
      match i, hi with
      | 0, hi =>
        have hu : Value.int .i64 p.f0 = u := by simpa using hi
        subst hu
        exact h1
      | 1, hi =>
        have hu : Value.int .i64 p.f1 = u := by simpa using hi
        subst hu
        exact h2
    · intro e he
      rw [List.mem_map] at he
      obtain ⟨r, hr, rfl⟩ := he
      have hr2 := List.mem_range.1 hr
      simp only [hr2, dif_pos]
      exact (each r hr2).choose_spec.2
end
end Go.Proofs.Ytpbngmkhpcgpkaa.P
