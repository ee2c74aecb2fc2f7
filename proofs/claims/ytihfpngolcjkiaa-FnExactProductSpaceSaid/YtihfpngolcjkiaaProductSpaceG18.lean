/- How the laws' arguments read: a slice of numbers, of pairs, of lists of numbers, out of the form's own reading; for every world. -/
import Derived.Test.YtihfpngolcjkiaaProductSpaceG5
import Derived.ProofKit
import Derived.OpenShut
import Derived.Deep.Matrix
import Derived.Lib.SmallJoins
import Derived.Test.YtihfpngolcjkiaaProductSpaceG15
import Derived.Test.YtihfpngolcjkiaaProductSpaceG6
import Derived.Test.YtihfpngolcjkiaaProductSpaceG7
import Derived.Test.YtihfpngolcjkiaaProductSpaceG8
import Derived.Test.YtihfpngolcjkiaaProductSpaceG9
import Derived.Test.YtihfpngolcjkiaaProductSpaceG13
import Derived.Test.YtihfpngolcjkiaaProductSpaceG10
import Derived.Test.YtihfpngolcjkiaaProductSpaceG11
namespace Go.Proofs.Ytihfpngolcjkiaa.P
open Go.RowKit Go.Deep Go.ChangeShapes Go.Joins Go.Proofs.YtihfpngolcjkiaaW.PrintWords
set_option linter.unusedVariables false
set_option linter.unusedSimpArgs false
/-- A whole number, a list of them, a list of pairs, a list of lists, as they come in. -/
def FitL (l : List Int) : Prop := l.length ≤ 9223372036854775807 ∧ ∀ n ∈ l, (Lit.int .i64 n).wf = true
def FitP (l : List S41) : Prop := l.length ≤ 9223372036854775807 ∧ ∀ e ∈ l, (Lit.int .i64 e.f0).wf = true ∧ (Lit.int .i64 e.f1).wf = true
def FitLL (l : List (List Int)) : Prop := l.length ≤ 9223372036854775807 ∧ ∀ s ∈ l, FitL s
section
variable {H : Type} {enc : TypeId × Value → H} {W : World} {base : Nat} {held : Bool} {fuel : Nat}

theorem read_lists {v : Value} {y : DataW H × List MemPlace} (h : DataW.trod enc Try.prog W base (fun _ => true) held fuel 22 [v] = some y) :
    ∃ (A : Option Addr) (c : Nat) (l : List (List Int)), v = .slice A l.length c ∧ l.length ≤ c ∧ Kd.C (Kd.slice 3 (Kd.int .i64)) W A l.length l ∧ FitLL l := by
  rcases open_int_rows Try.underlying22 Try.underlying39 Try.underlying3 (by kernel_rfl) (by kernel_rfl) h with ⟨hcs, _⟩ | ⟨a, len, cap, Ar, L, C, Z, hcs, _, hl, hm, _, hx⟩
  · injection hcs with hv _
    exact ⟨none, 0, [], hv, Nat.le_refl _, ⟨rfl, Nat.zero_le _, fun h0 => absurd h0 (Nat.lt_irrefl _)⟩, ⟨Nat.zero_le _, fun n hn => by cases hn⟩⟩
  · injection hcs with hv _
    have hlen : ((List.range len).map fun r => (Z r).take (L r)).length = len := by simp
    refine ⟨some a, cap, (List.range len).map fun r => (Z r).take (L r), by rw [hlen]; exact hv, by omega, ⟨rfl, by unfold maxLen at hm; omega, fun _ => ⟨a, rfl, fun j p hj => ?_⟩⟩, ⟨by rw [hlen]; unfold maxLen at hm; omega, ?_⟩⟩
    · have hj2 := (List.getElem?_eq_some_iff.1 hj).1
      rw [hlen] at hj2
      have hp : (Z j).take (L j) = p := by
        rw [List.getElem?_map, List.getElem?_range hj2] at hj
        exact Option.some.inj hj
      subst hp
      obtain ⟨h1, h2, h3, h4, h5, h6, h7⟩ := hx j (by omega)
      have hpl : ((Z j).take (L j)).length = L j := by rw [List.length_take]; omega
      refine ⟨[.slice (Ar j) (L j) (C j)], rfl, ⟨Ar j, C j, by rw [hpl], by omega, ⟨rfl, by unfold maxLen at h3; omega, fun h0 => ?_⟩⟩, fun i u hi => ?_⟩
      · cases ha : Ar j with
        | none => have := h6 ha; omega
        | some a' =>
          refine ⟨a', rfl, fun q p hq => ⟨[.int .i64 p], rfl, rfl, fun i u hi => ?_⟩⟩
          cases i with
          | succ i => simp at hi
          | zero =>
            have hu : Value.int .i64 p = u := by simpa using hi
            subst hu
            have hq2 := (List.getElem?_eq_some_iff.1 hq).1
            rw [hpl] at hq2
            have hq3 : (Z j)[q]? = some p := by rw [List.getElem?_take, if_pos hq2] at hq; exact hq
            have := (h7 a' ha).2 q (by omega)
            rw [List.getD_eq_getElem?_getD, hq3] at this
            simpa [show (Kd.int .i64).sz = 1 from rfl] using this
      · cases i with
        | succ i => simp at hi
        | zero =>
          have hu : Value.slice (Ar j) (L j) (C j) = u := by simpa using hi
          subst hu
          simpa [show (Kd.slice 3 (Kd.int .i64)).sz = 1 from rfl] using h1
    · intro s hs
      rw [List.mem_map] at hs
      obtain ⟨r, hr, rfl⟩ := hs
      have h1 := hx r (by have := List.mem_range.1 hr; omega)
      exact ⟨by have := h1.2.2.1; have := h1.2.2.2.1; unfold maxLen at *; rw [List.length_take]; omega, fun n hn => h1.2.2.2.2.1 n (List.mem_of_mem_take hn)⟩

theorem read_prs {v : Value} {y : DataW H × List MemPlace} (h : DataW.trod enc Try.prog W base (fun _ => true) held fuel 23 [v] = some y) :
    ∃ (A : Option Addr) (c : Nat) (l : List S41), v = .slice A l.length c ∧ l.length ≤ c ∧ Kd.C k41 W A l.length l ∧ FitP l := by
  rcases open_slice Try.underlying23 h with ⟨hcs, _⟩ | ⟨a, len, cap, m, n, D, Pl, hcs, _, hl, hm, hmm, _, hx⟩
  · injection hcs with hv _
    exact ⟨none, 0, [], hv, Nat.le_refl _, ⟨rfl, Nat.zero_le _, fun h0 => absurd h0 (Nat.lt_irrefl _)⟩, ⟨Nat.zero_le _, fun n hn => by cases hn⟩⟩
  · injection hcs with hv _
    have hce : Try.prog.cellsOf 41 = 2 := by kernel_rfl
    have hci : Try.prog.cellsOf 3 = 1 := by kernel_rfl
    have each : ∀ i, i < len → ∃ e : S41, (W.cell? (a.add (i * 2)) = some (.int .i64 e.f0) ∧ W.cell? (a.add (i * 2 + 1)) = some (.int .i64 e.f1)) ∧ (Lit.int .i64 e.f0).wf = true ∧ (Lit.int .i64 e.f1).wf = true := by
      intro i hi
      obtain ⟨cs', h1, h2⟩ := hx i (by simp only [if_true] at hmm; omega)
      rw [hce] at h1
      obtain ⟨_, hcl, hcc⟩ := World.cells?_some h1
      obtain ⟨c0, c1, rfl⟩ : ∃ c0 c1, cs' = [c0, c1] := by
        match cs', hcl with
        | [c0, c1], _ => exact ⟨c0, c1, rfl⟩
      obtain ⟨xs, q, rfl, hq, _, hxl, he⟩ := DataW.trod_array Try.underlying41 h2
      have e0 := he 0 (by omega)
      have e1 := he 1 (by omega)
      simp only [hci] at e0 e1
      obtain ⟨y0, hy0⟩ : ∃ y0, xs[0]? = some y0 := ⟨xs[0], List.getElem?_eq_getElem (by omega)⟩
      obtain ⟨y1, hy1⟩ : ∃ y1, xs[1]? = some y1 := ⟨xs[1], List.getElem?_eq_getElem (by omega)⟩
      rw [hy0] at e0
      rw [hy1] at e1
      obtain ⟨n0, k0, _, w0⟩ := DataW.trod_int Try.underlying3 e0
      obtain ⟨n1, k1, _, w1⟩ := DataW.trod_int Try.underlying3 e1
      simp at k0 k1
      subst k0
      subst k1
      have f0 := hcc 0 (by omega)
      have f1 := hcc 1 (by omega)
      refine ⟨⟨n0, n1⟩, ⟨?_, ?_⟩, w0, w1⟩
      · rw [Addr.add_add, Nat.add_zero] at f0
        simpa using f0
      · rw [Addr.add_add] at f1
        simpa using f1
    have hlen : ((List.range len).map fun i => if hi : i < len then (each i hi).choose else z41).length = len := by simp
    refine ⟨some a, cap, (List.range len).map fun i => if hi : i < len then (each i hi).choose else z41, by rw [hlen]; exact hv, by omega, ⟨rfl, by unfold maxLen at hm; omega, fun _ => ⟨a, rfl, fun j p hj => ?_⟩⟩, ⟨by rw [hlen]; unfold maxLen at hm; omega, ?_⟩⟩
    · have hj2 := (List.getElem?_eq_some_iff.1 hj).1
      rw [hlen] at hj2
      have hp : (each j hj2).choose = p := by
        rw [List.getElem?_map, List.getElem?_range hj2] at hj
        simpa [hj2] using hj
      obtain ⟨⟨h1, h2⟩, _⟩ := (each j hj2).choose_spec
      rw [hp] at h1 h2
      refine ⟨[.int .i64 p.f0, .int .i64 p.f1], rfl, k41_mk W p, fun i u hi => ?_⟩
      rw [show k41.sz = 2 from rfl]
      match i, hi with
      | 0, hi =>
        have hu : Value.int .i64 p.f0 = u := by simpa using hi
        subst hu
        exact h1
      | 1, hi =>
        have hu : Value.int .i64 p.f1 = u := by simpa using hi
        subst hu
        exact h2
    · intro e he
      rw [List.mem_map] at he
      obtain ⟨r, hr, rfl⟩ := he
      have hr2 := List.mem_range.1 hr
      simp only [hr2, dif_pos]
      exact (each r hr2).choose_spec.2
end
end Go.Proofs.Ytihfpngolcjkiaa.P
namespace Go.Proofs.Ytihfpngolcjkiaa.P
open Go.RowKit Go.Proofs.YtihfpngolcjkiaaW.PrintWords Go.Proofs.YtihfpngolcjkiaaW.PrintLast Go.Proofs.YtihfpngolcjkiaaW.PrintMore
set_option linter.unusedVariables false
set_option linter.unusedSimpArgs false
section
variable {α β : Type}
theorem Ev.pos {c : Prop} [Decidable c] {f g : Nat → Option α} {r : α} (h : c) (k : Ev f r) : Ev (fun n => if c then f n else g n) r := by simpa only [if_pos h] using k
theorem Ev.neg {c : Prop} [Decidable c] {f g : Nat → Option α} {r : α} (h : ¬ c) (k : Ev g r) : Ev (fun n => if c then f n else g n) r := by simpa only [if_neg h] using k
theorem Ev.bindo {o : Option α} {f : Nat → α → Option β} {a : α} {r : β} (h : o = some a) (k : Ev (fun n => f n a) r) : Ev (fun n => o.bind (f n)) r := by simpa only [h, Option.bind_some] using k
theorem Ev.some {o : Option α} {r : α} (h : o = some r) : Ev (fun _ => o) r := ⟨0, fun _ _ => h⟩
end
theorem wrap_nat {m : Int} (h : -9223372036854775808 ≤ m) (h2 : m ≤ 9223372036854775807) : wrap64 m = m := by unfold wrap64; omega
theorem wrap_up {m n : Nat} (h : m < n) (hn : n ≤ 9223372036854775807) : wrap64 ((m : Int) + 1) = ((m + 1 : Nat) : Int) := by unfold wrap64; omega
theorem rd_at (l : List Int) (m : Nat) (h : m < l.length) : rd l (m : Int) = l[m] := by simp [rd, List.getD_eq_getElem?_getD, List.getElem?_eq_getElem h]
theorem rdT_at (l : List S41) (m : Nat) (h : m < l.length) : rd_T41 l (m : Int) = l[m] := by simp [rd_T41, List.getD_eq_getElem?_getD, List.getElem?_eq_getElem h]

/-! Copies. -/
theorem take_set_next {α : Type} (l acc : List α) (m : Nat) (hm : m < l.length) (ha : acc.length = l.length) (h : acc.take m = l.take m) : (acc.set m l[m]).take (m + 1) = l.take (m + 1) := by
  rw [List.take_succ_eq_append_getElem (by rw [List.length_set]; omega), List.take_succ_eq_append_getElem hm, List.getElem_set_self, List.take_set_of_le (Nat.le_refl _), h]
theorem toIntA2S_loop (l : List S41) (hl : l.length ≤ 1048576) (d : Nat) : ∀ (acc : List S41) (m : Nat), l.length - m = d → m ≤ l.length → acc.length = l.length → acc.take m = l.take m →
    Ev (fun k => laws_toIntA2S.l0 k l acc (m : Int)) l := by
  induction d with
  | zero =>
    intro acc m h0 h1 h2 h3
    refine Ev.step (fun k => by rw [laws_toIntA2S.l0]) ?_
    refine Ev.neg (by omega) ?_
    have : acc = l := by rw [← List.take_length (l := acc), ← List.take_length (l := l), h2, show l.length = m by omega]; exact h3
    rw [this]
    exact Ev.now _
  | succ d ih =>
    intro acc m h0 h1 h2 h3
    have hm : m < l.length := by omega
    refine Ev.step (fun k => by rw [laws_toIntA2S.l0]) ?_
    refine Ev.pos (by omega) (Ev.pos (by omega) (Ev.bindo rfl (Ev.pos (by omega) ?_)))
    rw [wrap_up hm (by omega), rdT_at l m hm, Int.toNat_natCast]
    exact ih _ (m + 1) (by omega) (by omega) (by rw [List.length_set]; exact h2) (take_set_next l acc m hm h2 h3)
theorem toIntA2S_ev (l : List S41) (hl : l.length ≤ 1048576) : Ev (fun k => laws_toIntA2S.f k l) l := by
  unfold laws_toIntA2S.f
  refine Ev.pos (by omega) (Ev.pos (by omega) ?_)
  exact toIntA2S_loop l hl l.length _ 0 (by omega) (Nat.zero_le _) (by simp) (by simp)
theorem toIntS_loop (l : List Int) (hl : l.length ≤ 1048576) (d : Nat) : ∀ (acc : List Int) (m : Nat), l.length - m = d → m ≤ l.length → acc.length = l.length → acc.take m = l.take m →
    Ev (fun k => laws_toIntS.l0 k l acc (m : Int)) l := by
  induction d with
  | zero =>
    intro acc m h0 h1 h2 h3
    refine Ev.step (fun k => by rw [laws_toIntS.l0]) ?_
    refine Ev.neg (by omega) ?_
    have : acc = l := by rw [← List.take_length (l := acc), ← List.take_length (l := l), h2, show l.length = m by omega]; exact h3
    rw [this]
    exact Ev.now _
  | succ d ih =>
    intro acc m h0 h1 h2 h3
    have hm : m < l.length := by omega
    refine Ev.step (fun k => by rw [laws_toIntS.l0]) ?_
    refine Ev.pos (by omega) (Ev.pos (by omega) (Ev.pos (by omega) ?_))
    rw [wrap_up hm (by omega), rd_at l m hm, Int.toNat_natCast]
    exact ih _ (m + 1) (by omega) (by omega) (by rw [List.length_set]; exact h2) (take_set_next l acc m hm h2 h3)
theorem toIntS_ev (l : List Int) (hl : l.length ≤ 1048576) : Ev (fun k => laws_toIntS.f k l) l := by
  unfold laws_toIntS.f
  refine Ev.pos (by omega) (Ev.pos (by omega) ?_)
  exact toIntS_loop l hl l.length _ 0 (by omega) (Nat.zero_le _) (by simp) (by simp)
/-! Comparisons of equals. -/
theorem eqIntA2S_loop (l : List S41) (hl : l.length ≤ 1048576) (d : Nat) : ∀ (m : Nat), l.length - m = d → m ≤ l.length → Ev (fun k => laws_eqIntA2S.l0 k l l (m : Int)) true := by
  induction d with
  | zero =>
    intro m h0 h1
    refine Ev.step (fun k => by rw [laws_eqIntA2S.l0]) ?_
    exact Ev.neg (by omega) (Ev.now _)
  | succ d ih =>
    intro m h0 h1
    have hm : m < l.length := by omega
    refine Ev.step (fun k => by rw [laws_eqIntA2S.l0]) ?_
    refine Ev.pos (by omega) (Ev.pos (by omega) (Ev.pos (by omega) (Ev.bindo (a := true) (by simp [laws_eqIntA2.f]) (Ev.pos rfl ?_))))
    rw [wrap_up hm (by omega)]
    exact ih (m + 1) (by omega) (by omega)
theorem eqIntA2S_ev (l : List S41) (hl : l.length ≤ 1048576) : Ev (fun k => laws_eqIntA2S.f k l l) true := by
  unfold laws_eqIntA2S.f
  exact Ev.pos rfl (eqIntA2S_loop l hl l.length 0 (by omega) (Nat.zero_le _))
theorem eqIntS_loop (l : List Int) (hl : l.length ≤ 1048576) (d : Nat) : ∀ (m : Nat), l.length - m = d → m ≤ l.length → Ev (fun k => laws_eqIntS.l0 k l l (m : Int)) true := by
  induction d with
  | zero =>
    intro m h0 h1
    refine Ev.step (fun k => by rw [laws_eqIntS.l0]) ?_
    exact Ev.neg (by omega) (Ev.now _)
  | succ d ih =>
    intro m h0 h1
    have hm : m < l.length := by omega
    refine Ev.step (fun k => by rw [laws_eqIntS.l0]) ?_
    refine Ev.pos (by omega) (Ev.pos (by omega) (Ev.pos (by omega) (Ev.pos rfl ?_)))
    rw [wrap_up hm (by omega)]
    exact ih (m + 1) (by omega) (by omega)
theorem eqIntS_ev (l : List Int) (hl : l.length ≤ 1048576) : Ev (fun k => laws_eqIntS.f k l l) true := by
  unfold laws_eqIntS.f
  exact Ev.pos rfl (eqIntS_loop l hl l.length 0 (by omega) (Nat.zero_le _))
end Go.Proofs.Ytihfpngolcjkiaa.P
namespace Go.Proofs.Ytihfpngolcjkiaa.P
open Go.RowKit Go.Proofs.YtihfpngolcjkiaaW.PrintWords Go.Proofs.YtihfpngolcjkiaaW.PrintLast Go.Proofs.YtihfpngolcjkiaaW.PrintMore
set_option linter.unusedVariables false
set_option linter.unusedSimpArgs false

theorem in_at (a lo hi : Int) : spec_l1In.f a lo hi = some (decide (lo ≤ a) && decide (a ≤ hi)) := by
  unfold spec_l1In.f
  by_cases h : lo ≤ a
  · rw [if_pos h, decide_eq_true h, Bool.true_and]
  · rw [if_neg h, decide_eq_false h, Bool.false_and]
/-- A pair comes before another one. -/
def befP (a b : S41) : Bool := decide (a.f0 < b.f0) || (decide (a.f0 = b.f0) && decide (a.f1 < b.f1))
theorem edge_at (a b : S41) : spec_l2Edge.f a.f0 a.f1 b.f0 b.f1 = some (befP a b) := by
  unfold spec_l2Edge.f befP
  by_cases h : a.f0 < b.f0
  · rw [if_pos h, decide_eq_true h, Bool.true_or]
  · rw [if_neg h, decide_eq_false h, Bool.false_or]
    by_cases h2 : a.f0 = b.f0
    · rw [if_pos h2, decide_eq_true h2, Bool.true_and]
    · rw [if_neg h2, decide_eq_false h2, Bool.false_and]
theorem cmpP_bef (a b : S41) : (cmpP a b < 0) ↔ befP a b = true := by
  unfold cmpP befP cmpI
  simp only [Bool.or_eq_true, Bool.and_eq_true, decide_eq_true_eq]
  by_cases h : a.f0 < b.f0
  · simp [h]
  · by_cases h2 : b.f0 < a.f0
    · have : ¬ a.f0 = b.f0 := by omega
      simp [h, h2, this]
    · have h3 : a.f0 = b.f0 := by omega
      by_cases h4 : a.f1 < b.f1
      · simp [h3, h4]
      · by_cases h5 : b.f1 < a.f1 <;> simp [h3, h4, h5]
/-- Pairs of numbers from 0 on below n, the less one first, strictly ascending behind a first one. -/
def goodP (n : Int) : Option S41 → List S41 → Bool
  | _, [] => true
  | p, e :: t => (decide (0 ≤ e.f0) && decide (e.f0 < e.f1) && decide (e.f1 < n)) && ((match p with | none => true | some q => befP q e) && goodP n (some e) t)
def prevP (l : List S41) : Nat → Option S41
  | 0 => none
  | m + 1 => l[m]?
theorem goodP_step (l : List S41) (n : Int) (m : Nat) (hm : m < l.length) : goodP n (prevP l m) (l.drop m) = ((decide (0 ≤ l[m].f0) && decide (l[m].f0 < l[m].f1) && decide (l[m].f1 < n)) && ((match prevP l m with | none => true | some q => befP q l[m]) && goodP n (prevP l (m + 1)) (l.drop (m + 1)))) := by
  rw [List.drop_eq_getElem_cons hm, show prevP l (m + 1) = some l[m] from List.getElem?_eq_getElem hm]
  cases prevP l m <;> rfl
theorem l2Pairs_loop (l : List S41) (n : Int) (hn : 0 ≤ n) (hn2 : n ≤ 4611686018427387904) (hl : l.length ≤ 1048576) (d : Nat) : ∀ (m : Nat), l.length - m = d → m ≤ l.length →
    Ev (fun k => spec_l2Pairs.l0 k l n (m : Int)) (goodP n (prevP l m) (l.drop m)) := by
  induction d with
  | zero =>
    intro m h0 h1
    refine Ev.step (fun k => by rw [spec_l2Pairs.l0]) ?_
    have e3 : l.drop m = [] := List.drop_eq_nil_of_le (by omega)
    rw [e3]
    refine Ev.neg (by omega) ?_
    cases prevP l m <;> exact Ev.now _
  | succ d ih =>
    intro m h0 h1
    have hm : m < l.length := by omega
    refine Ev.step (fun k => by rw [spec_l2Pairs.l0]) ?_
    rw [goodP_step l n m hm]
    refine Ev.pos (by omega) (Ev.pos (by omega) ?_)
    rw [rdT_at l m hm, wrap_nat (m := n - 1) (by omega) (by omega)]
    have ihm := ih (m + 1) (by omega) (by omega)
    rw [← wrap_up hm (by omega)] at ihm
    generalize goodP n (prevP l (m + 1)) (l.drop (m + 1)) = R at ihm ⊢
    refine Ev.bindo (in_at _ _ _) ?_
    by_cases c1 : 0 ≤ l[m].f0
    · by_cases c2 : l[m].f0 ≤ n - 1
      · refine Ev.pos (by simp [c1, c2]) (Ev.bindo (in_at _ _ _) ?_)
        by_cases c3 : 0 ≤ l[m].f1 ∧ l[m].f1 ≤ n - 1
        · refine Ev.pos (by simp [c3.1, c3.2]) ?_
          by_cases c4 : l[m].f0 ≥ l[m].f1
          · have : (decide (0 ≤ l[m].f0) && decide (l[m].f0 < l[m].f1) && decide (l[m].f1 < n)) = false := by simp; omega
            rw [this, Bool.false_and]
            exact Ev.pos c4 (Ev.now _)
          · have : (decide (0 ≤ l[m].f0) && decide (l[m].f0 < l[m].f1) && decide (l[m].f1 < n)) = true := by simp; omega
            rw [this, Bool.true_and]
            refine Ev.neg c4 ?_
            cases m with
            | zero =>
              refine Ev.neg (by omega) ?_
              simp only [prevP, Bool.true_and]
              exact ihm
            | succ q =>
              have hq : q < l.length := by omega
              have hw : wrap64 (((q + 1 : Nat) : Int) - 1) = (q : Int) := by unfold wrap64; omega
              refine Ev.pos (by omega) ?_
              rw [hw]
              refine Ev.pos (by omega) (Ev.pos (by omega) ?_)
              rw [rdT_at l q hq]
              refine Ev.bindo (edge_at _ _) ?_
              simp only [prevP, List.getElem?_eq_getElem hq]
              cases befP l[q] l[q + 1] with
              | true => rw [Bool.true_and]; exact Ev.pos rfl ihm
              | false => rw [Bool.false_and]; exact Ev.neg (by decide) (Ev.now _)
        · have : (decide (0 ≤ l[m].f0) && decide (l[m].f0 < l[m].f1) && decide (l[m].f1 < n)) = false := by simp; omega
          rw [this, Bool.false_and]
          exact Ev.neg (by simp; omega) (Ev.now _)
      · have : (decide (0 ≤ l[m].f0) && decide (l[m].f0 < l[m].f1) && decide (l[m].f1 < n)) = false := by simp; omega
        rw [this, Bool.false_and]
        exact Ev.neg (by simp; omega) (Ev.now _)
    · have : (decide (0 ≤ l[m].f0) && decide (l[m].f0 < l[m].f1) && decide (l[m].f1 < n)) = false := by simp; omega
      rw [this, Bool.false_and]
      exact Ev.neg (by simp; omega) (Ev.now _)
theorem isPairs_loop (l : List S41) (n : Int) (hl : l.length ≤ 1048576) (d : Nat) : ∀ (m : Nat), l.length - m = d → m ≤ l.length →
    Ev (fun k => impl_isPairs.l0 k l n l (l.length : Int) (m : Int)) (goodP n (prevP l m) (l.drop m)) := by
  induction d with
  | zero =>
    intro m h0 h1
    refine Ev.step (fun k => by rw [impl_isPairs.l0]) ?_
    have e3 : l.drop m = [] := List.drop_eq_nil_of_le (by omega)
    rw [e3]
    refine Ev.neg (by omega) ?_
    cases prevP l m <;> exact Ev.now _
  | succ d ih =>
    intro m h0 h1
    have hm : m < l.length := by omega
    refine Ev.step (fun k => by rw [impl_isPairs.l0]) ?_
    rw [goodP_step l n m hm]
    refine Ev.pos (by omega) (Ev.pos (by omega) (Ev.pos (by omega) ?_))
    rw [rdT_at l m hm]
    have ihm := ih (m + 1) (by omega) (by omega)
    rw [← wrap_up hm (by omega)] at ihm
    generalize goodP n (prevP l (m + 1)) (l.drop (m + 1)) = R at ihm ⊢
    by_cases c1 : l[m].f0 < 0
    · have : (decide (0 ≤ l[m].f0) && decide (l[m].f0 < l[m].f1) && decide (l[m].f1 < n)) = false := by simp; omega
      rw [this, Bool.false_and]
      exact Ev.pos c1 (Ev.now _)
    · refine Ev.neg c1 ?_
      by_cases c2 : l[m].f0 ≥ l[m].f1
      · have : (decide (0 ≤ l[m].f0) && decide (l[m].f0 < l[m].f1) && decide (l[m].f1 < n)) = false := by simp; omega
        rw [this, Bool.false_and]
        exact Ev.pos c2 (Ev.now _)
      · refine Ev.neg c2 ?_
        by_cases c3 : l[m].f1 ≥ n
        · have : (decide (0 ≤ l[m].f0) && decide (l[m].f0 < l[m].f1) && decide (l[m].f1 < n)) = false := by simp; omega
          rw [this, Bool.false_and]
          exact Ev.pos c3 (Ev.now _)
        · have : (decide (0 ≤ l[m].f0) && decide (l[m].f0 < l[m].f1) && decide (l[m].f1 < n)) = true := by simp; omega
          rw [this, Bool.true_and]
          refine Ev.neg c3 ?_
          cases m with
          | zero =>
            refine Ev.neg (by omega) ?_
            simp only [prevP, Bool.true_and]
            exact ihm
          | succ q =>
            have hq : q < l.length := by omega
            have hw : wrap64 (((q + 1 : Nat) : Int) - 1) = (q : Int) := by unfold wrap64; omega
            refine Ev.pos (by omega) ?_
            rw [hw]
            refine Ev.pos (by omega) (Ev.pos (by omega) ?_)
            rw [rdT_at l q hq]
            refine Ev.bind (a := cmpP l[q] l[q + 1]) ⟨3, fun k hk => comparePairs_at _ _ k hk⟩ ?_
            simp only [prevP, List.getElem?_eq_getElem hq]
            have hb := cmpP_bef l[q] l[q + 1]
            cases hbb : befP l[q] l[q + 1] with
            | true => rw [Bool.true_and]; exact Ev.neg (by have := hb.2 hbb; omega) ihm
            | false => rw [Bool.false_and]; exact Ev.pos (by rw [hbb] at hb; have : ¬ cmpP l[q] l[q+1] < 0 := fun h => by have := hb.1 h; cases this
                                                             omega) (Ev.now _)
theorem l2Pairs_ev (l : List S41) (n : Int) (hn : 0 ≤ n) (hn2 : n ≤ 4611686018427387904) (hl : l.length ≤ 1048576) : Ev (fun k => spec_l2Pairs.f k l n) (goodP n none l) :=
  l2Pairs_loop l n hn hn2 hl l.length 0 (by omega) (Nat.zero_le _)
theorem isPairs_ev (l : List S41) (n : Int) (hl : l.length ≤ 1048576) : Ev (fun k => impl_isPairs.f k l n) (goodP n none l) :=
  isPairs_loop l n hl l.length 0 (by omega) (Nat.zero_le _)
/-- A valid graph. -/
def okG (a : Int) (l : List S41) : Bool := (decide (0 ≤ a) && decide (a ≤ 8)) && goodP a none l
end Go.Proofs.Ytihfpngolcjkiaa.P
namespace Go.Proofs.Ytihfpngolcjkiaa.P
open Go.RowKit Go.Proofs.YtihfpngolcjkiaaW.PrintWords Go.Proofs.YtihfpngolcjkiaaW.PrintLast Go.Proofs.YtihfpngolcjkiaaW.PrintMore
set_option linter.unusedVariables false
set_option linter.unusedSimpArgs false

theorem rdL_at (l : List (List Int)) (m : Nat) (h : m < l.length) : rd_L1 l (m : Int) = l[m] := by simp [rd_L1, List.getD_eq_getElem?_getD, List.getElem?_eq_getElem h]
/-- A space of moderate size. -/
def modS (l : List (List Int)) (e : List S41) : Prop := l.length ≤ 1048576 ∧ (∀ s ∈ l, s.length ≤ 1048576) ∧ e.length ≤ 1048576
theorem szIntSS_loop (l : List (List Int)) (hl : l.length ≤ 1048576) (hf : ∀ s ∈ l, s.length ≤ 9223372036854775807) (d : Nat) : ∀ (m : Nat) (c : Int), l.length - m = d → m ≤ l.length → 0 ≤ c → c ≤ 1048576 →
    ∃ t, Ev (fun k => laws_szIntSS.l0 k l c (m : Int)) t ∧ (t < 0 ∨ (0 ≤ t ∧ t ≤ c ∧ ∀ s ∈ l.drop m, s.length ≤ 1048576)) := by
  induction d with
  | zero =>
    intro m c h0 h1 h2 h3
    refine ⟨c, Ev.step (fun k => by rw [laws_szIntSS.l0]) (Ev.neg (by omega) (Ev.now _)), .inr ⟨h2, by omega, ?_⟩⟩
    rw [List.drop_eq_nil_of_le (by omega)]
    intro s hs
    simp at hs
  | succ d ih =>
    intro m c h0 h1 h2 h3
    have hm : m < l.length := by omega
    have hs := hf l[m] (List.getElem_mem hm)
    by_cases hc : c - (l[m].length : Int) < 0
    · refine ⟨-1, ?_, .inl (by omega)⟩
      refine Ev.step (fun k => by rw [laws_szIntSS.l0]) ?_
      refine Ev.pos (by omega) (Ev.pos (by omega) ?_)
      refine Ev.bindo (a := (-1 : Int)) ?_ (Ev.pos (by omega) (Ev.now _))
      unfold laws_szIntS.f
      rw [rdL_at l m hm, wrap_nat (m := c - (l[m].length : Int)) (by omega) (by omega), if_pos hc]
    · obtain ⟨t, ht, hd⟩ := ih (m + 1) (c - (l[m].length : Int)) (by omega) (by omega) (by omega) (by omega)
      refine ⟨t, ?_, ?_⟩
      · refine Ev.step (fun k => by rw [laws_szIntSS.l0]) ?_
        refine Ev.pos (by omega) (Ev.pos (by omega) ?_)
        refine Ev.bindo (a := c - (l[m].length : Int)) ?_ (Ev.neg (by omega) ?_)
        · unfold laws_szIntS.f
          rw [rdL_at l m hm, wrap_nat (m := c - (l[m].length : Int)) (by omega) (by omega), if_neg hc]
        · rw [wrap_up hm (by omega)]
          exact ht
      · rcases hd with hd | ⟨h4, h5, h6⟩
        · exact .inl hd
        · refine .inr ⟨h4, by omega, ?_⟩
          rw [List.drop_eq_getElem_cons hm]
          intro s hs
          rcases List.mem_cons.1 hs with rfl | hs
          · omega
          · exact h6 s hs
theorem sz_spaceC (l : List (List Int)) (e : List S41) (c : Int) (hl : FitLL l) (he : e.length ≤ 9223372036854775807) (hc : 0 ≤ c ∧ c ≤ 1048576) : ∃ t, Ev (fun k => laws_szSpace.f k l e c) t ∧ (t < 0 ∨ (modS l e ∧ t ≤ c)) := by
  unfold laws_szSpace.f laws_szIntSS.f
  have h1 := hl.1
  have hw : wrap64 (c - (l.length : Int)) = c - (l.length : Int) := wrap_nat (by omega) (by omega)
  rw [hw]
  by_cases h : c - (l.length : Int) < 0
  · exact ⟨-1, Ev.bind (Ev.pos h (Ev.now _)) (Ev.pos (by omega) (Ev.now _)), .inl (by omega)⟩
  · obtain ⟨t, ht, hd⟩ := szIntSS_loop l (by omega) (fun s hs => (hl.2 s hs).1) l.length 0 (c - (l.length : Int)) (by omega) (Nat.zero_le _) (by omega) (by omega)
    rcases hd with hd | ⟨h4, h5, h6⟩
    · exact ⟨-1, Ev.bind (Ev.neg h ht) (Ev.pos hd (Ev.now _)), .inl (by omega)⟩
    · have hw2 : wrap64 (t - (e.length : Int)) = t - (e.length : Int) := wrap_nat (by omega) (by omega)
      by_cases h7 : t - (e.length : Int) < 0
      · refine ⟨-1, Ev.bind (Ev.neg h ht) (Ev.neg (by omega) (Ev.bindo (a := (-1 : Int)) ?_ (Ev.pos (by decide : (-1 : Int) < 0) (Ev.now _)))), .inl (by omega)⟩
        unfold laws_szIntA2S.f
        rw [hw2, if_pos h7]
      · refine ⟨t - (e.length : Int), Ev.bind (Ev.neg h ht) (Ev.neg (by omega) (Ev.bindo (a := t - (e.length : Int)) ?_ (Ev.neg h7 (Ev.now _)))), .inr ⟨⟨by omega, ?_, by omega⟩, by omega⟩⟩
        · unfold laws_szIntA2S.f
          rw [hw2, if_neg h7]
        · simpa only [List.drop_zero] using h6
/-! Copies. -/
theorem toIntSS_loop (l : List (List Int)) (hl : l.length ≤ 1048576) (hs : ∀ s ∈ l, s.length ≤ 1048576) (d : Nat) : ∀ (acc : List (List Int)) (m : Nat), l.length - m = d → m ≤ l.length → acc.length = l.length → acc.take m = l.take m →
    Ev (fun k => laws_toIntSS.l0 k l acc (m : Int)) l := by
  induction d with
  | zero =>
    intro acc m h0 h1 h2 h3
    refine Ev.step (fun k => by rw [laws_toIntSS.l0]) ?_
    refine Ev.neg (by omega) ?_
    have : acc = l := by rw [← List.take_length (l := acc), ← List.take_length (l := l), h2, show l.length = m by omega]; exact h3
    rw [this]
    exact Ev.now _
  | succ d ih =>
    intro acc m h0 h1 h2 h3
    have hm : m < l.length := by omega
    refine Ev.step (fun k => by rw [laws_toIntSS.l0]) ?_
    refine Ev.pos (by omega) (Ev.pos (by omega) ?_)
    rw [rdL_at l m hm]
    refine Ev.bind (toIntS_ev l[m] (hs _ (List.getElem_mem hm))) (Ev.pos (by omega) ?_)
    rw [wrap_up hm (by omega), Int.toNat_natCast]
    exact ih _ (m + 1) (by omega) (by omega) (by rw [List.length_set]; exact h2) (take_set_next l acc m hm h2 h3)
theorem toIntSS_ev (l : List (List Int)) (hl : l.length ≤ 1048576) (hs : ∀ s ∈ l, s.length ≤ 1048576) : Ev (fun k => laws_toIntSS.f k l) l := by
  unfold laws_toIntSS.f
  refine Ev.pos (by omega) (Ev.pos (by omega) ?_)
  exact toIntSS_loop l hl hs l.length _ 0 (by omega) (Nat.zero_le _) (by simp) (by simp)
theorem toSpace_ev (l : List (List Int)) (e : List S41) (h : modS l e) : Ev (fun k => laws_toSpace.f k l e) (l, e) := by
  unfold laws_toSpace.f
  exact Ev.bind (toIntSS_ev l h.1 h.2.1) (Ev.bind (toIntA2S_ev e h.2.2) (Ev.now _))
/-! Comparisons of equals. -/
theorem eqIntSS_loop (l : List (List Int)) (hl : l.length ≤ 1048576) (hs : ∀ s ∈ l, s.length ≤ 1048576) (d : Nat) : ∀ (m : Nat), l.length - m = d → m ≤ l.length → Ev (fun k => laws_eqIntSS.l0 k l l (m : Int)) true := by
  induction d with
  | zero =>
    intro m h0 h1
    refine Ev.step (fun k => by rw [laws_eqIntSS.l0]) ?_
    exact Ev.neg (by omega) (Ev.now _)
  | succ d ih =>
    intro m h0 h1
    have hm : m < l.length := by omega
    refine Ev.step (fun k => by rw [laws_eqIntSS.l0]) ?_
    refine Ev.pos (by omega) (Ev.pos (by omega) (Ev.pos (by omega) ?_))
    rw [rdL_at l m hm]
    refine Ev.bind (eqIntS_ev l[m] (hs _ (List.getElem_mem hm))) (Ev.pos rfl ?_)
    rw [wrap_up hm (by omega)]
    exact ih (m + 1) (by omega) (by omega)
theorem eqIntSS_ev (l : List (List Int)) (hl : l.length ≤ 1048576) (hs : ∀ s ∈ l, s.length ≤ 1048576) : Ev (fun k => laws_eqIntSS.f k l l) true := by
  unfold laws_eqIntSS.f
  exact Ev.pos rfl (eqIntSS_loop l hl hs l.length 0 (by omega) (Nat.zero_le _))
theorem eqSpace_ev (l : List (List Int)) (e : List S41) (h : modS l e) : Ev (fun k => laws_eqSpace.f k l e l e) true := by
  unfold laws_eqSpace.f
  exact Ev.bind (eqIntSS_ev l h.1 h.2.1) (Ev.pos rfl (Ev.bind (eqIntA2S_ev e h.2.2) (Ev.pos rfl (Ev.now _))))
/-! A state, and states in order. -/
def okState (s : List Int) : Bool := decide ((s.length : Int) ≤ 24) && s.all fun x => decide (-99 ≤ x) && decide (x ≤ 99)
theorem isState_at (s : List Int) : impl_isState.f s = some (okState s) := by
  unfold impl_isState.f okState
  congr 2
  induction s with
  | nil => rfl
  | cons x t ih =>
    rw [List.any_cons, List.all_cons, Bool.not_or, ih]
    unfold outB
    rw [Bool.not_not]
theorem l2State_loop (s : List Int) (hl : s.length ≤ 1048576) (d : Nat) : ∀ (m : Nat), s.length - m = d → m ≤ s.length →
    Ev (fun k => spec_l2State.l0 k s (m : Int)) (decide ((s.length : Int) ≤ 24) && (s.drop m).all fun x => decide (-99 ≤ x) && decide (x ≤ 99)) := by
  induction d with
  | zero =>
    intro m h0 h1
    refine Ev.step (fun k => by rw [spec_l2State.l0]) (Ev.neg (by omega) ?_)
    rw [List.drop_eq_nil_of_le (by omega), List.all_nil, Bool.and_true]
    exact Ev.now _
  | succ d ih =>
    intro m h0 h1
    have hm : m < s.length := by omega
    refine Ev.step (fun k => by rw [spec_l2State.l0]) (Ev.pos (by omega) (Ev.pos (by omega) ?_))
    rw [rd_at s m hm, List.drop_eq_getElem_cons hm, List.all_cons]
    refine Ev.bindo (in_at _ _ _) ?_
    cases (decide (-99 ≤ s[m]) && decide (s[m] ≤ 99)) with
    | false => rw [Bool.false_and, Bool.and_false]; exact Ev.neg (by decide) (Ev.now _)
    | true =>
      rw [Bool.true_and, wrap_up hm (by omega)]
      exact Ev.pos rfl (ih (m + 1) (by omega) (by omega))
theorem l2State_ev (s : List Int) (hl : s.length ≤ 1048576) : Ev (fun k => spec_l2State.f k s) (okState s) :=
  l2State_loop s hl s.length 0 (by omega) (Nat.zero_le _)
/-- A list comes before another one. -/
def befL : List Int → List Int → Bool
  | [], [] => false
  | [], _ :: _ => true
  | _ :: _, [] => false
  | a :: x, b :: y => if a = b then befL x y else decide (a < b)
theorem l2Before_loop (x y : List Int) (hx : x.length ≤ 1048576) (hy : y.length ≤ 1048576) (d : Nat) : ∀ (m : Nat), x.length - m = d → m ≤ x.length → m ≤ y.length →
    Ev (fun k => spec_l2Before.l0 k x y (m : Int)) (befL (x.drop m) (y.drop m)) := by
  induction d with
  | zero =>
    intro m h0 h1 h2
    refine Ev.step (fun k => by rw [spec_l2Before.l0]) (Ev.neg (by omega) (Ev.step (fun k => by rw [spec_l2Before.j1]) (Ev.neg (by decide) ?_)))
    rw [show x.drop m = [] from List.drop_eq_nil_of_le (by omega)]
    by_cases h : m < y.length
    · rw [List.drop_eq_getElem_cons h, show decide ((x.length : Int) < (y.length : Int)) = true from decide_eq_true (by omega)]
      exact Ev.now _
    · rw [List.drop_eq_nil_of_le (by omega), show decide ((x.length : Int) < (y.length : Int)) = false from decide_eq_false (by omega)]
      exact Ev.now _
  | succ d ih =>
    intro m h0 h1 h2
    have hm : m < x.length := by omega
    refine Ev.step (fun k => by rw [spec_l2Before.l0]) (Ev.pos (by omega) (Ev.step (fun k => by rw [spec_l2Before.j1]) ?_))
    rw [List.drop_eq_getElem_cons hm]
    by_cases h : m < y.length
    · refine Ev.pos (decide_eq_true (by omega)) (Ev.pos (by omega) (Ev.pos (by omega) (Ev.pos (by omega) ?_)))
      rw [rd_at x m hm, rd_at y m h, List.drop_eq_getElem_cons h, befL]
      by_cases c : x[m] = y[m]
      · rw [if_pos c, wrap_up hm (by omega)]
        exact Ev.pos c (ih (m + 1) (by omega) (by omega) (by omega))
      · rw [if_neg c]
        exact Ev.neg c (Ev.now _)
    · refine Ev.neg (by rw [decide_eq_false (by omega)]; decide) ?_
      rw [show y.drop m = [] from List.drop_eq_nil_of_le (by omega), show decide ((x.length : Int) < (y.length : Int)) = false from decide_eq_false (by omega)]
      exact Ev.now _
theorem l2Before_ev (x y : List Int) (hx : x.length ≤ 1048576) (hy : y.length ≤ 1048576) : Ev (fun k => spec_l2Before.f k x y) (befL x y) :=
  l2Before_loop x y hx hy x.length 0 (by omega) (Nat.zero_le _) (Nat.zero_le _)
theorem cmpL_bef (x : List Int) : ∀ y, (cmpL x y ≥ 0) ↔ befL x y = false := by
  induction x with
  | nil => intro y; cases y <;> simp [cmpL, befL]
  | cons a x ih =>
    intro y
    cases y with
    | nil => simp [cmpL, befL]
    | cons b y =>
      simp only [cmpL, befL]
      unfold cmpI
      by_cases h : a < b
      · rw [if_pos h, if_neg (by decide), if_neg (by omega), decide_eq_true h]
        simp
      · rw [if_neg h]
        by_cases h2 : a > b
        · rw [if_pos h2, if_neg (by decide), if_neg (by omega), decide_eq_false h]
          simp
        · rw [if_neg h2, if_pos rfl, if_pos (by omega)]
          exact ih y
/-- States, each a state, strictly ascending behind a first one. -/
def goodS : Option (List Int) → List (List Int) → Bool
  | _, [] => true
  | p, s :: t => okState s && ((match p with | none => true | some q => befL q s) && goodS (some s) t)
def prevS (l : List (List Int)) : Nat → Option (List Int)
  | 0 => none
  | m + 1 => l[m]?
theorem goodS_step (l : List (List Int)) (m : Nat) (hm : m < l.length) : goodS (prevS l m) (l.drop m) = (okState l[m] && ((match prevS l m with | none => true | some q => befL q l[m]) && goodS (prevS l (m + 1)) (l.drop (m + 1)))) := by
  rw [List.drop_eq_getElem_cons hm, show prevS l (m + 1) = some l[m] from List.getElem?_eq_getElem hm]
  cases prevS l m <;> rfl
def okS (l : List (List Int)) (e : List S41) : Bool := (decide ((l.length : Int) ≤ 300) && decide ((e.length : Int) ≤ 6000)) && (goodS none l && goodP (l.length : Int) none e)
section
variable (l : List (List Int)) (e : List S41) (h : modS l e)
include h
theorem l2Space_loop (d : Nat) : ∀ (m : Nat), l.length - m = d → m ≤ l.length → Ev (fun k => spec_l2Space.l0 k (m : Int) l e) (goodS (prevS l m) (l.drop m) && goodP (l.length : Int) none e) := by
  have hl := h.1
  induction d with
  | zero =>
    intro m h0 h1
    refine Ev.step (fun k => by rw [spec_l2Space.l0]) (Ev.neg (by omega) ?_)
    rw [List.drop_eq_nil_of_le (by omega), show goodS (prevS l m) [] = true from by cases prevS l m <;> rfl, Bool.true_and]
    exact Ev.bind (l2Pairs_ev e _ (by omega) (by omega) h.2.2) (Ev.now _)
  | succ d ih =>
    intro m h0 h1
    have hm : m < l.length := by omega
    refine Ev.step (fun k => by rw [spec_l2Space.l0]) (Ev.pos (by omega) (Ev.pos (by omega) ?_))
    rw [goodS_step l m hm, rdL_at l m hm]
    have ihm := ih (m + 1) (by omega) (by omega)
    rw [← wrap_up hm (by omega)] at ihm
    generalize goodS (prevS l (m + 1)) (l.drop (m + 1)) = R at ihm ⊢
    refine Ev.bind (l2State_ev l[m] (h.2.1 _ (List.getElem_mem hm))) ?_
    cases okState l[m] with
    | false => rw [Bool.false_and, Bool.false_and]; exact Ev.neg (by decide) (Ev.now _)
    | true =>
      rw [Bool.true_and]
      refine Ev.pos rfl ?_
      cases m with
      | zero =>
        refine Ev.neg (by omega) ?_
        simp only [prevS, Bool.true_and]
        exact ihm
      | succ q =>
        have hq : q < l.length := by omega
        have hw : wrap64 (((q + 1 : Nat) : Int) - 1) = (q : Int) := by unfold wrap64; omega
        refine Ev.pos (by omega) ?_
        rw [hw]
        refine Ev.pos (by omega) (Ev.pos (by omega) ?_)
        rw [rdL_at l q hq]
        simp only [prevS, List.getElem?_eq_getElem hq]
        refine Ev.bind (l2Before_ev _ _ (h.2.1 _ (List.getElem_mem hq)) (h.2.1 _ (List.getElem_mem hm))) ?_
        cases befL l[q] l[q + 1] with
        | true => rw [Bool.true_and]; exact Ev.pos rfl ihm
        | false => rw [Bool.false_and, Bool.false_and]; exact Ev.neg (by decide) (Ev.now _)
theorem l2Space_ev : Ev (fun k => spec_l2Space.f k l e) (okS l e) := by
  unfold spec_l2Space.f okS
  by_cases c : (l.length : Int) > 300
  · rw [decide_eq_false (by omega : ¬ (l.length : Int) ≤ 300), Bool.false_and, Bool.false_and]
    exact Ev.pos c (Ev.step (fun k => by rw [spec_l2Space.j0]) (Ev.pos rfl (Ev.now _)))
  · rw [decide_eq_true (by omega : (l.length : Int) ≤ 300), Bool.true_and]
    refine Ev.neg c (Ev.step (fun k => by rw [spec_l2Space.j0]) ?_)
    by_cases c2 : (e.length : Int) > 6000
    · rw [decide_eq_false (by omega : ¬ (e.length : Int) ≤ 6000), Bool.false_and]
      exact Ev.pos (decide_eq_true c2) (Ev.now _)
    · rw [decide_eq_true (by omega : (e.length : Int) ≤ 6000), Bool.true_and]
      refine Ev.neg (by rw [decide_eq_false c2]; decide) ?_
      exact l2Space_loop l e h l.length 0 (by omega) (Nat.zero_le _)
theorem IsSpace_loop (d : Nat) : ∀ (m : Nat), l.length - m = d → m ≤ l.length → Ev (fun k => impl_IsSpace.l0 k l (l.length : Int) (m : Int) l e) (goodS (prevS l m) (l.drop m) && goodP (l.length : Int) none e) := by
  have hl := h.1
  induction d with
  | zero =>
    intro m h0 h1
    refine Ev.step (fun k => by rw [impl_IsSpace.l0]) (Ev.neg (by omega) ?_)
    rw [List.drop_eq_nil_of_le (by omega), show goodS (prevS l m) [] = true from by cases prevS l m <;> rfl, Bool.true_and]
    exact Ev.bind (isPairs_ev e _ h.2.2) (Ev.now _)
  | succ d ih =>
    intro m h0 h1
    have hm : m < l.length := by omega
    refine Ev.step (fun k => by rw [impl_IsSpace.l0]) (Ev.pos (by omega) (Ev.pos (by omega) (Ev.pos (by omega) ?_)))
    rw [goodS_step l m hm, rdL_at l m hm]
    have ihm := ih (m + 1) (by omega) (by omega)
    rw [← wrap_up hm (by omega)] at ihm
    generalize goodS (prevS l (m + 1)) (l.drop (m + 1)) = R at ihm ⊢
    refine Ev.bindo (isState_at l[m]) ?_
    cases okState l[m] with
    | false => rw [Bool.false_and, Bool.false_and]; exact Ev.neg (by decide) (Ev.now _)
    | true =>
      rw [Bool.true_and]
      refine Ev.pos rfl ?_
      cases m with
      | zero =>
        refine Ev.neg (by omega) ?_
        simp only [prevS, Bool.true_and]
        exact ihm
      | succ q =>
        have hq : q < l.length := by omega
        have hw : wrap64 (((q + 1 : Nat) : Int) - 1) = (q : Int) := by unfold wrap64; omega
        refine Ev.pos (by omega) ?_
        rw [hw]
        refine Ev.pos (by omega) (Ev.pos (by omega) ?_)
        rw [rdL_at l q hq]
        simp only [prevS, List.getElem?_eq_getElem hq]
        have hlq := h.2.1 _ (List.getElem_mem hq)
        refine Ev.bind (a := cmpL l[q] l[q + 1]) ⟨l[q].length + 1, fun k hk => slices_Compare_at _ _ (by omega) k (by omega)⟩ ?_
        have hb := cmpL_bef l[q] l[q + 1]
        cases hc : befL l[q] l[q + 1] with
        | true => rw [Bool.true_and]; exact Ev.neg (fun hh => by have := hb.1 hh; rw [hc] at this; simp at this) ihm
        | false => rw [Bool.false_and, Bool.false_and]; exact Ev.pos (hb.2 hc) (Ev.now _)
theorem impl_IsSpace_ev : Ev (fun k => impl_IsSpace.f k l e) (okS l e) := by
  unfold impl_IsSpace.f okS
  by_cases c : (l.length : Int) > 300
  · rw [decide_eq_false (by omega : ¬ (l.length : Int) ≤ 300), Bool.false_and, Bool.false_and]
    exact Ev.pos c (Ev.step (fun k => by rw [impl_IsSpace.j0]) (Ev.pos rfl (Ev.now _)))
  · rw [decide_eq_true (by omega : (l.length : Int) ≤ 300), Bool.true_and]
    refine Ev.neg c (Ev.step (fun k => by rw [impl_IsSpace.j0]) ?_)
    by_cases c2 : (e.length : Int) > 6000
    · rw [decide_eq_false (by omega : ¬ (e.length : Int) ≤ 6000), Bool.false_and]
      exact Ev.pos (decide_eq_true c2) (Ev.now _)
    · rw [decide_eq_true (by omega : (e.length : Int) ≤ 6000), Bool.true_and]
      refine Ev.neg (by rw [decide_eq_false c2]; decide) ?_
      exact IsSpace_loop l e h l.length 0 (by omega) (Nat.zero_le _)
end
end Go.Proofs.Ytihfpngolcjkiaa.P
namespace Go.Proofs.Ytihfpngolcjkiaa.P
open Go.RowKit Go.Proofs.YtihfpngolcjkiaaW.PrintWords Go.Proofs.YtihfpngolcjkiaaW.PrintLast Go.Proofs.YtihfpngolcjkiaaW.PrintMore
set_option linter.unusedVariables false
set_option linter.unusedSimpArgs false

/-! Marks are held, and counted from 0 on. -/
theorem mark2_fst (l : List S41) : ∀ (k : Int), 0 ≤ k → k + 2 * (l.length : Int) ≤ 4611686018427387904 → (mark2 l k).1 = k + 2 * (l.length : Int) := by
  induction l with
  | nil => intro k h1 h2; simp [mark2]
  | cons e t ih =>
    intro k h1 h2
    simp only [List.length_cons] at h2 ⊢
    simp only [mark2]
    have e1 : wrap64 (k + 1) = k + 1 := wrap_nat (by omega) (by omega)
    have e2 : wrap64 (k + 1 + 1) = k + 1 + 1 := wrap_nat (by omega) (by omega)
    rw [e1, e2, ih (k + 1 + 1) (by omega) (by omega)]
    omega
theorem held_mark2 (l : List S41) : ∀ (k : Int), held2 (mark2 l k).2 k = (mark2 l k).1 := by
  induction l with
  | nil => intro k; rfl
  | cons e t ih => intro k; simp only [mark2, held2, if_true]; exact ih _
/-! What a valid graph gives. -/
theorem goodP_all (n : Int) (l : List S41) : ∀ p, goodP n p l = true → ∀ e ∈ l, 0 ≤ e.f0 ∧ e.f0 < e.f1 ∧ e.f1 < n := by
  induction l with
  | nil => intro p h e he; simp at he
  | cons x t ih =>
    intro p h e he
    simp only [goodP, Bool.and_eq_true, decide_eq_true_eq] at h
    obtain ⟨⟨⟨h1, h2⟩, h3⟩, h4, h5⟩ := h
    rcases List.mem_cons.1 he with rfl | he
    · exact ⟨h1, h2, h3⟩
    · exact ih _ h5 e he
end Go.Proofs.Ytihfpngolcjkiaa.P
namespace Go.Proofs.Ytihfpngolcjkiaa.P
open Go.RowKit Go.Proofs.YtihfpngolcjkiaaW.PrintWords Go.Proofs.YtihfpngolcjkiaaW.PrintLast Go.Proofs.YtihfpngolcjkiaaW.PrintMore
set_option linter.unusedVariables false
set_option linter.unusedSimpArgs false

abbrev PrT := S41
def rowsOf (n : Nat) (f : Int → List Int) : List (List Int) := (List.range n).map fun (i : Nat) => f i
theorem rowsOf_len (n : Nat) (f : Int → List Int) : (rowsOf n f).length = n := by simp [rowsOf]
theorem rowsOf_congr {n : Nat} {f g : Int → List Int} (h : ∀ i : Nat, i < n → f i = g i) : rowsOf n f = rowsOf n g := by
  unfold rowsOf
  exact List.map_congr_left fun i hi => h i (List.mem_range.1 hi)
theorem rowsOf_get {n : Nat} (f : Int → List Int) (i : Nat) (h : i < n) (h' : i < (rowsOf n f).length) : (rowsOf n f)[i] = f i := by simp [rowsOf]
theorem rowsOf_rd {n : Nat} (f : Int → List Int) {a : Int} (h0 : 0 ≤ a) (h1 : a < n) : rd_L1 (rowsOf n f) a = f a := by
  obtain ⟨i, rfl⟩ := Int.eq_ofNat_of_zero_le h0
  have hi : i < n := by omega
  unfold rd_L1
  rw [Int.toNat_natCast, List.getD_eq_getElem?_getD, List.getElem?_eq_getElem (by rw [rowsOf_len]; exact hi), Option.getD_some, rowsOf_get f i hi]
theorem rowsOf_set {n : Nat} (f : Int → List Int) {a : Int} (h0 : 0 ≤ a) (h1 : a < n) (x : List Int) : (rowsOf n f).set a.toNat x = rowsOf n (fun i => if i = a then x else f i) := by
  obtain ⟨i, rfl⟩ := Int.eq_ofNat_of_zero_le h0
  refine List.ext_getElem (by rw [List.length_set, rowsOf_len, rowsOf_len]) fun j hj hj' => ?_
  have hjn : j < n := by rw [rowsOf_len] at hj'; exact hj'
  rw [rowsOf_get _ j hjn]
  simp only [Int.toNat_natCast, List.getElem_set]
  by_cases h : i = j
  · subst h; rw [if_pos rfl, if_pos rfl]
  · rw [if_neg h, if_neg (by omega), rowsOf_get _ j hjn]
theorem rowsOf_nil (n : Nat) : List.replicate n ([] : List Int) = rowsOf n (fun _ => []) := by
  unfold rowsOf
  rw [List.map_const', List.length_range]
def pick0 (i : Int) (p : PrT) : Option Int := if p.f0 = i then some p.f1 else none
def pick1 (i : Int) (p : PrT) : Option Int := if p.f1 = i then some p.f0 else none
def pickL (i : Int) (p : PrT) : Option Int := if p.f0 = i then some p.f1 else if p.f1 = i then some p.f0 else none
def rowL (e : List PrT) (i : Int) : List Int := e.filterMap (pickL i)
theorem filterMap_take {α : Type} (f : PrT → Option α) (e : List PrT) (m : Nat) (hm : m < e.length) : (e.take (m + 1)).filterMap f = (e.take m).filterMap f ++ (f e[m]).toList := by
  rw [List.take_add_one, List.getElem?_eq_getElem hm, List.filterMap_append]
  cases h : f e[m] <;> simp [h]
theorem filterMap_le {α : Type} (f : PrT → Option α) (e : List PrT) (m : Nat) (he : e.length ≤ 1048576) : ((e.take m).filterMap f).length ≤ 1048576 := by
  have h1 := List.length_filterMap_le f (e.take m)
  have h2 := List.length_take_le m e
  have h3 : (e.take m).length ≤ e.length := by rw [List.length_take]; omega
  omega
theorem befP_transL {a b c : PrT} (h : befP a b = true) (k : befP b c = true) : befP a c = true := by
  unfold befP at *
  simp only [Bool.or_eq_true, Bool.and_eq_true, decide_eq_true_eq] at *
  omega
theorem goodP_pw (n : Int) (l : List PrT) : ∀ p, goodP n p l = true → l.Pairwise (fun a b => befP a b = true) ∧ (∀ q, p = some q → ∀ s ∈ l, befP q s = true) := by
  induction l with
  | nil => intro p h; exact ⟨.nil, fun q _ s hs => by cases hs⟩
  | cons x t ih =>
    intro p h
    simp only [goodP, Bool.and_eq_true, decide_eq_true_eq] at h
    obtain ⟨_, h4, h5⟩ := h
    obtain ⟨h1, h2⟩ := ih _ h5
    refine ⟨List.pairwise_cons.2 ⟨fun s hs => h2 x rfl s hs, h1⟩, fun q hq s hs => ?_⟩
    subst hq
    have hx : befP q x = true := h4
    rcases List.mem_cons.1 hs with rfl | hs
    · exact hx
    · exact befP_transL hx (h2 x rfl s hs)
/-- The rows of both passes, one behind the other, are the rows in the order of the steps. -/
theorem rowL_two (i : Int) (e : List PrT) : (∀ p ∈ e, p.f0 < p.f1) → e.Pairwise (fun a b => befP a b = true) → e.filterMap (pick1 i) ++ e.filterMap (pick0 i) = rowL e i := by
  induction e with
  | nil => intro _ _; rfl
  | cons p t ih =>
    intro hl hp
    obtain ⟨h1, h2⟩ := List.pairwise_cons.1 hp
    have ih' := ih (fun q hq => hl q (.tail _ hq)) h2
    have hpl := hl p (.head _)
    unfold rowL at ih' ⊢
    by_cases c0 : p.f0 = i
    · have e1 : pick1 i p = none := by unfold pick1; rw [if_neg (by omega)]
      have e0 : pick0 i p = some p.f1 := by unfold pick0; rw [if_pos c0]
      have eL : pickL i p = some p.f1 := by unfold pickL; rw [if_pos c0]
      have ht : t.filterMap (pick1 i) = [] := by
        rw [List.filterMap_eq_nil_iff]
        intro q hq
        have hb := h1 q hq
        have hq' := hl q (.tail _ hq)
        unfold befP at hb
        simp only [Bool.or_eq_true, Bool.and_eq_true, decide_eq_true_eq] at hb
        unfold pick1
        rw [if_neg (by omega)]
      rw [ht, List.nil_append] at ih'
      rw [List.filterMap_cons_none e1, List.filterMap_cons_some e0, List.filterMap_cons_some eL, ht, List.nil_append, ih']
    · have e0 : pick0 i p = none := by unfold pick0; rw [if_neg c0]
      by_cases c1 : p.f1 = i
      · have e1 : pick1 i p = some p.f0 := by unfold pick1; rw [if_pos c1]
        have eL : pickL i p = some p.f0 := by unfold pickL; rw [if_neg c0, if_pos c1]
        rw [List.filterMap_cons_some e1, List.filterMap_cons_none e0, List.filterMap_cons_some eL, List.cons_append, ih']
      · have e1 : pick1 i p = none := by unfold pick1; rw [if_neg c1]
        have eL : pickL i p = none := by unfold pickL; rw [if_neg c0, if_neg c1]
        rw [List.filterMap_cons_none e1, List.filterMap_cons_none e0, List.filterMap_cons_none eL, ih']
theorem rowL_rising (i : Int) (e : List PrT) (hl : ∀ p ∈ e, p.f0 < p.f1) (hp : e.Pairwise (fun a b => befP a b = true)) : (rowL e i).Pairwise (· < ·) := by
  have hp2 : e.Pairwise (fun a b => befP a b = true ∧ a.f0 < a.f1 ∧ b.f0 < b.f1) := by
    refine List.Pairwise.imp_of_mem (fun {a b} ha hb h => ⟨h, hl a ha, hl b hb⟩) hp
  refine List.Pairwise.filterMap _ (fun a b h x hx y hy => ?_) hp2
  obtain ⟨h, ha, hb⟩ := h
  unfold befP at h
  simp only [Bool.or_eq_true, Bool.and_eq_true, decide_eq_true_eq] at h
  unfold pickL at hx hy
  by_cases c0 : a.f0 = i
  · rw [if_pos c0] at hx
    by_cases d0 : b.f0 = i
    · rw [if_pos d0] at hy; simp at hx hy; omega
    · rw [if_neg d0] at hy
      by_cases d1 : b.f1 = i
      · rw [if_pos d1] at hy; simp at hx hy; omega
      · rw [if_neg d1] at hy; cases hy
  · rw [if_neg c0] at hx
    by_cases c1 : a.f1 = i
    · rw [if_pos c1] at hx
      by_cases d0 : b.f0 = i
      · rw [if_pos d0] at hy; simp at hx hy; omega
      · rw [if_neg d0] at hy
        by_cases d1 : b.f1 = i
        · rw [if_pos d1] at hy; simp at hx hy; omega
        · rw [if_neg d1] at hy; cases hy
    · rw [if_neg c1] at hx; cases hx
section
variable {l : List (List Int)} {e : List PrT} (he : e.length ≤ 1048576) (hg : ∀ p ∈ e, 0 ≤ p.f0 ∧ p.f0 < p.f1 ∧ p.f1 < (l.length : Int))
include he hg
theorem lists_loop2 (d : Nat) : ∀ (m : Nat), e.length - m = d → m ≤ e.length → Ev (fun k => spec_l2Lists.l1 k (rowsOf l.length (fun i => e.filterMap (pick1 i) ++ (e.take m).filterMap (pick0 i))) (m : Int) l e) (rowsOf l.length (fun i => e.filterMap (pick1 i) ++ e.filterMap (pick0 i))) := by
  induction d with
  | zero =>
    intro m h0 h1
    refine Ev.step (fun k => by rw [spec_l2Lists.l1]) (Ev.neg (by omega) ?_)
    rw [List.take_of_length_le (by omega)]
    exact Ev.now _
  | succ d ih =>
    intro m h0 h1
    have hm : m < e.length := by omega
    have hp := hg e[m] (List.getElem_mem hm)
    have ihm := ih (m + 1) (by omega) (by omega)
    rw [← wrap_up hm (by omega)] at ihm
    refine Ev.step (fun k => by rw [spec_l2Lists.l1]) (Ev.pos (by omega) (Ev.pos (by omega) ?_))
    rw [rdT_at e m hm, rowsOf_len, rowsOf_rd _ hp.1 (by omega), rowsOf_set _ hp.1 (by omega)]
    refine Ev.pos hp.1 (Ev.pos (by omega) (Ev.pos ?_ ?_))
    · have h1 := filterMap_le (pick0 e[m].f0) e m he
      have h2 := filterMap_le (pick1 e[m].f0) e e.length he
      rw [List.take_length] at h2
      rw [List.length_append]
      omega
    rw [rowsOf_congr (g := fun i => e.filterMap (pick1 i) ++ (e.take (m + 1)).filterMap (pick0 i)) (fun i hi => ?_)]
    · exact ihm
    · rw [filterMap_take (pick0 i) e m hm]
      by_cases c0 : (i : Int) = e[m].f0
      · rw [if_pos c0, c0]
        unfold pick0
        rw [if_pos rfl, List.append_assoc]
        rfl
      · rw [if_neg c0]
        have : pick0 i e[m] = none := by unfold pick0; rw [if_neg (by omega)]
        rw [this]
        simp
theorem lists_loop1 {R : List (List Int)} (hR : Ev (fun k => spec_l2Lists.l1 k (rowsOf l.length (fun i => e.filterMap (pick1 i))) 0 l e) R) (d : Nat) : ∀ (m : Nat), e.length - m = d → m ≤ e.length → Ev (fun k => spec_l2Lists.l0 k (rowsOf l.length (fun i => (e.take m).filterMap (pick1 i))) (m : Int) l e) R := by
  induction d with
  | zero =>
    intro m h0 h1
    refine Ev.step (fun k => by rw [spec_l2Lists.l0]) (Ev.neg (by omega) ?_)
    rw [List.take_of_length_le (by omega)]
    exact hR
  | succ d ih =>
    intro m h0 h1
    have hm : m < e.length := by omega
    have hp := hg e[m] (List.getElem_mem hm)
    have ihm := ih (m + 1) (by omega) (by omega)
    rw [← wrap_up hm (by omega)] at ihm
    refine Ev.step (fun k => by rw [spec_l2Lists.l0]) (Ev.pos (by omega) (Ev.pos (by omega) ?_))
    rw [rdT_at e m hm, rowsOf_len, rowsOf_rd _ (by omega) hp.2.2, rowsOf_set _ (by omega) hp.2.2]
    refine Ev.pos (by omega) (Ev.pos (by omega) (Ev.pos (by have := filterMap_le (pick1 e[m].f1) e m he; omega) ?_))
    rw [rowsOf_congr (g := fun i => (e.take (m + 1)).filterMap (pick1 i)) (fun i hi => ?_)]
    · exact ihm
    · rw [filterMap_take (pick1 i) e m hm]
      by_cases c0 : (i : Int) = e[m].f1
      · rw [if_pos c0, c0]
        unfold pick1
        rw [if_pos rfl]
        rfl
      · rw [if_neg c0]
        have : pick1 i e[m] = none := by unfold pick1; rw [if_neg (by omega)]
        rw [this]
        simp
end
section
variable (l : List (List Int)) (e : List PrT) (hm : modS l e) (hg : goodP (l.length : Int) none e = true)
include hm hg
/-- The rows of a space. -/
def roadsL (l : List (List Int)) (e : List PrT) : List (List Int) := rowsOf l.length (rowL e)
theorem lists_ev : Ev (fun k => spec_l2Lists.f k l e) (roadsL l e) := by
  have ha := goodP_all (l.length : Int) e none hg
  have hp := (goodP_pw (l.length : Int) e none hg).1
  have h2 := lists_loop2 (l := l) hm.2.2 ha (e.length - 0) 0 rfl (Nat.zero_le _)
  have e0 : (fun i => e.filterMap (pick1 i) ++ (e.take 0).filterMap (pick0 i)) = fun i => e.filterMap (pick1 i) := funext fun i => by simp
  rw [e0] at h2
  have h1 := lists_loop1 (l := l) hm.2.2 ha h2 (e.length - 0) 0 rfl (Nat.zero_le _)
  have e1 : (fun i => (e.take 0).filterMap (pick1 i)) = fun _ => [] := funext fun i => by simp
  rw [e1] at h1
  unfold spec_l2Lists.f
  refine Ev.pos (by omega) (Ev.pos (by have := hm.1; omega) ?_)
  rw [Int.toNat_natCast, rowsOf_nil]
  rw [show roadsL l e = rowsOf l.length (fun i => e.filterMap (pick1 i) ++ e.filterMap (pick0 i)) from rowsOf_congr fun i _ => (rowL_two i e (fun p hp => (ha p hp).2.1) hp).symm]
  exact h1
end
theorem roadsL_len (l : List (List Int)) (e : List PrT) : (roadsL l e).length = l.length := rowsOf_len _ _
theorem rowL_le (e : List PrT) (i : Int) : (rowL e i).length ≤ e.length := List.length_filterMap_le _ _
end Go.Proofs.Ytihfpngolcjkiaa.P
namespace Go.Proofs.Ytihfpngolcjkiaa.P
open Go.RowKit Go.Proofs.YtihfpngolcjkiaaW.PrintWords Go.Proofs.YtihfpngolcjkiaaW.PrintLast Go.Proofs.YtihfpngolcjkiaaW.PrintMore
set_option linter.unusedVariables false
set_option linter.unusedSimpArgs false
theorem rowL_memP (e : List S41) (i j : Int) : j ∈ rowL e i ↔ ∃ p ∈ e, (p.f0 = i ∧ p.f1 = j) ∨ (p.f0 ≠ i ∧ p.f1 = i ∧ p.f0 = j) := by
  unfold rowL
  rw [List.mem_filterMap]
  refine exists_congr fun p => and_congr_right fun _ => ?_
  unfold pickL
  by_cases c0 : p.f0 = i
  · rw [if_pos c0]; simp [c0]
  · rw [if_neg c0]
    by_cases c1 : p.f1 = i
    · rw [if_pos c1]; simp [c0, c1]
    · rw [if_neg c1]; simp [c0, c1]
def ltP (a b : S41) : Prop := a.f0 < b.f0 ∨ (a.f0 = b.f0 ∧ a.f1 < b.f1)
/-- A list that lies in order holds each member once, and is told by its members. -/
theorem sortP_is {A B : List S41} (hA : A.Nodup) (hB : B.Pairwise ltP) (h : ∀ x, x ∈ A ↔ x ∈ B) : sortP A = B := by
  have hBn : B.Nodup := by
    rw [List.nodup_iff_pairwise_ne]
    refine hB.imp ?_
    rintro a b h rfl
    unfold ltP at h
    omega
  have hp : (sortP A).Perm B := (sortP_perm A).trans ((List.perm_ext_iff_of_nodup hA hBn).2 h)
  have hs : (sortP A).Pairwise (fun x y => (!ltOf cmpP y x) = true) := by
    unfold sortP
    refine List.pairwise_mergeSort (fun a b c h1 h2 => ?_) (fun a b => ?_) A
    · rw [ltOf_cmpP] at *
      simp only [Bool.not_eq_true', decide_eq_false_iff_not] at *
      omega
    · rw [ltOf_cmpP, ltOf_cmpP]
      simp only [Bool.or_eq_true, Bool.not_eq_true', decide_eq_false_iff_not]
      omega
  have hs2 : B.Pairwise (fun x y => (!ltOf cmpP y x) = true) := by
    refine hB.imp ?_
    intro a b h
    unfold ltP at h
    rw [ltOf_cmpP]
    simp only [Bool.not_eq_true', decide_eq_false_iff_not]
    omega
  refine hp.eq_of_pairwise (le := fun x y => (!ltOf cmpP y x) = true) (fun a b _ _ h1 h2 => ?_) hs hs2
  exact tri_cmpP a b (by simpa using h2) (by simpa using h1)
theorem mul_lt (n i i' j j' : Int) (h0 : j < n) (h1 : 0 ≤ j') (hi : i < i') (hn : 0 ≤ n) : i * n + j < i' * n + j' := by
  have h := Int.mul_le_mul_of_nonneg_right (show i + 1 ≤ i' by omega) hn
  rw [Int.add_mul, Int.one_mul] at h
  omega
theorem mul_eq (n i i' j j' : Int) (h0 : 0 ≤ j) (h1 : j < n) (h2 : 0 ≤ j') (h3 : j' < n) (h : i * n + j = i' * n + j') : i = i' ∧ j = j' := by
  have e : i = i' := by
    rcases Int.lt_trichotomy i i' with q | q | q
    · have := mul_lt n i i' j j' h1 h2 q (by omega); omega
    · exact q
    · have := mul_lt n i' i j' j h3 h0 q (by omega); omega
  subst e
  exact ⟨rfl, by omega⟩
/-- The reference's steps out of one place. -/
def spRow (n : Int) (far near : Int → List Int) (i j : Int) : List S41 :=
  ((near j).filter (fun q => decide (q > j))).map (fun q => (⟨i * n + j, i * n + q⟩ : S41)) ++ ((far i).filter (fun q => decide (q > i))).map (fun q => (⟨i * n + j, q * n + j⟩ : S41))
def spAll (n1 n2 : Nat) (far near : Int → List Int) : List S41 := (List.range n1).flatMap fun (i : Nat) => (List.range n2).flatMap fun (j : Nat) => spRow (n2 : Int) far near (i : Int) (j : Int)
/-- The program's steps, as they are laid down. -/
def imAll (n1 n2 : Nat) (e g : List S41) : List S41 :=
  ((List.range n1).flatMap fun (i : Nat) => g.map fun s => (⟨(i : Int) * n2 + s.f0, (i : Int) * n2 + s.f1⟩ : S41)) ++ (e.flatMap fun s => (List.range n2).map fun (k : Nat) => (⟨s.f0 * n2 + (k : Int), s.f1 * n2 + (k : Int)⟩ : S41))
theorem row_up {e : List S41} {n : Int} (he : ∀ s ∈ e, 0 ≤ s.f0 ∧ s.f0 < s.f1 ∧ s.f1 < n) (i q : Int) : (q ∈ rowL e i ∧ q > i) ↔ (⟨i, q⟩ : S41) ∈ e := by
  rw [rowL_memP]
  constructor
  · rintro ⟨⟨p, hp, h⟩, hq⟩
    have := he p hp
    obtain ⟨a, b⟩ := p
    simp only at h this
    rcases h with ⟨h1, h2⟩ | ⟨_, h1, h2⟩
    · rw [show (⟨i, q⟩ : S41) = ⟨a, b⟩ by rw [h1, h2]]; exact hp
    · omega
  · intro h
    have := he _ h
    simp only at this
    exact ⟨⟨_, h, .inl ⟨rfl, rfl⟩⟩, this.2.1⟩
section
variable {n1 n2 : Nat} {e g : List S41} (he : ∀ s ∈ e, 0 ≤ s.f0 ∧ s.f0 < s.f1 ∧ s.f1 < (n1 : Int)) (hg : ∀ s ∈ g, 0 ≤ s.f0 ∧ s.f0 < s.f1 ∧ s.f1 < (n2 : Int)) (hep : e.Pairwise (fun a b => befP a b = true)) (hgp : g.Pairwise (fun a b => befP a b = true))
include he hg
theorem prod_mem (x : S41) : x ∈ imAll n1 n2 e g ↔ x ∈ spAll n1 n2 (rowL e) (rowL g) := by
  unfold imAll spAll spRow
  simp only [List.mem_append, List.mem_flatMap, List.mem_map, List.mem_range, List.mem_filter, decide_eq_true_eq]
  constructor
  · rintro (⟨i, hi, s, hs, rfl⟩ | ⟨s, hs, k, hk, rfl⟩)
    · have h := hg s hs
      refine ⟨i, hi, s.f0.toNat, by omega, .inl ⟨s.f1, ?_, ?_⟩⟩
      · rw [show ((s.f0.toNat : Nat) : Int) = s.f0 by omega]
        exact (row_up hg _ _).2 hs
      · rw [show ((s.f0.toNat : Nat) : Int) = s.f0 by omega]
    · have h := he s hs
      refine ⟨s.f0.toNat, by omega, k, hk, .inr ⟨s.f1, ?_, ?_⟩⟩
      · rw [show ((s.f0.toNat : Nat) : Int) = s.f0 by omega]
        exact (row_up he _ _).2 hs
      · rw [show ((s.f0.toNat : Nat) : Int) = s.f0 by omega]
  · rintro ⟨i, hi, j, hj, ⟨q, hq, rfl⟩ | ⟨q, hq, rfl⟩⟩
    · exact .inl ⟨i, hi, _, (row_up hg _ _).1 hq, rfl⟩
    · exact .inr ⟨_, (row_up he _ _).1 hq, j, hj, rfl⟩
include hep hgp
theorem prod_asc : (spAll n1 n2 (rowL e) (rowL g)).Pairwise ltP := by
  have hre : ∀ i, (rowL e i).Pairwise (· < ·) := fun i => rowL_rising i e (fun p hp => (he p hp).2.1) hep
  have hrg : ∀ i, (rowL g i).Pairwise (· < ·) := fun i => rowL_rising i g (fun p hp => (hg p hp).2.1) hgp
  have hf : ∀ i j x, x ∈ spRow (n2 : Int) (rowL e) (rowL g) i j → x.f0 = i * n2 + j := fun i j x hx => by
    unfold spRow at hx
    rw [List.mem_append, List.mem_map, List.mem_map] at hx
    rcases hx with ⟨q, _, rfl⟩ | ⟨q, _, rfl⟩ <;> rfl
  unfold spAll
  rw [List.pairwise_flatMap]
  refine ⟨fun i hi => ?_, ?_⟩
  · rw [List.pairwise_flatMap]
    refine ⟨fun j hj => ?_, ?_⟩
    · rw [List.mem_range] at hi hj
      unfold spRow
      rw [List.pairwise_append]
      refine ⟨?_, ?_, ?_⟩
      · rw [List.pairwise_map]
        refine ((hrg j).sublist List.filter_sublist).imp ?_
        intro a b h
        exact .inr ⟨rfl, by show (i : Int) * n2 + a < (i : Int) * n2 + b; omega⟩
      · rw [List.pairwise_map]
        refine ((hre i).sublist List.filter_sublist).imp ?_
        intro a b h
        refine .inr ⟨rfl, ?_⟩
        show a * (n2 : Int) + j < b * (n2 : Int) + j
        exact mul_lt _ _ _ _ _ (by omega) (by omega) h (by omega)
      · rintro x hx y hy
        rw [List.mem_map] at hx hy
        obtain ⟨q, hq, rfl⟩ := hx
        obtain ⟨r, hr, rfl⟩ := hy
        rw [List.mem_filter, decide_eq_true_eq] at hq hr
        have h1 := hg _ ((row_up hg _ _).1 hq)
        simp only at h1
        refine .inr ⟨rfl, ?_⟩
        show (i : Int) * n2 + q < r * n2 + j
        exact mul_lt _ _ _ _ _ (by omega) (by omega) hr.2 (by omega)
    · refine (List.pairwise_lt_range).imp_of_mem ?_
      intro a b ha hb h x hx y hy
      refine .inl ?_
      rw [hf _ _ _ hx, hf _ _ _ hy]
      omega
  · refine (List.pairwise_lt_range).imp_of_mem ?_
    intro a b ha hb h x hx y hy
    rw [List.mem_flatMap] at hx hy
    obtain ⟨j, hj, hx⟩ := hx
    obtain ⟨k, hk, hy⟩ := hy
    rw [List.mem_range] at hj hk
    refine .inl ?_
    rw [hf _ _ _ hx, hf _ _ _ hy]
    exact mul_lt _ _ _ _ _ (by omega) (by omega) (by omega) (by omega)
theorem prod_nodup : (imAll n1 n2 e g).Nodup := by
  have hne : ∀ {l : List S41}, l.Pairwise (fun a b => befP a b = true) → l.Pairwise (· ≠ ·) := fun h => h.imp (fun {a b} h => by
    rintro rfl
    unfold befP at h
    simp at h)
  unfold imAll
  rw [List.nodup_append]
  refine ⟨?_, ?_, ?_⟩
  · rw [List.nodup_iff_pairwise_ne, List.pairwise_flatMap]
    refine ⟨fun i _ => ?_, ?_⟩
    · rw [List.pairwise_map]
      refine (hne hgp).imp ?_
      rintro ⟨a, b⟩ ⟨c, d⟩ h h2
      simp only [S41.mk.injEq] at h2
      exact h (by rw [show a = c by omega, show b = d by omega])
    · refine (List.pairwise_lt_range).imp_of_mem ?_
      intro a b ha hb h x hx y hy
      rw [List.mem_map] at hx hy
      obtain ⟨s, hs, rfl⟩ := hx
      obtain ⟨t, ht, rfl⟩ := hy
      have h1 := hg s hs
      have h2 := hg t ht
      intro h3
      simp only [S41.mk.injEq] at h3
      have := mul_eq _ _ _ _ _ (by omega) (by omega) (by omega) (by omega) h3.1
      omega
  · rw [List.nodup_iff_pairwise_ne, List.pairwise_flatMap]
    refine ⟨fun s hs => ?_, ?_⟩
    · rw [List.pairwise_map]
      refine (List.pairwise_lt_range).imp ?_
      intro a b h h3
      simp only [S41.mk.injEq] at h3
      omega
    · refine (hne hep).imp_of_mem ?_
      rintro ⟨a, b⟩ ⟨c, d⟩ ha hb h x hx y hy
      rw [List.mem_map] at hx hy
      obtain ⟨k, hk, rfl⟩ := hx
      obtain ⟨q, hq, rfl⟩ := hy
      rw [List.mem_range] at hk hq
      intro h3
      simp only [S41.mk.injEq] at h3
      have h4 := mul_eq _ _ _ _ _ (by omega) (by omega) (by omega) (by omega) h3.1
      have h5 := mul_eq _ _ _ _ _ (by omega) (by omega) (by omega) (by omega) h3.2
      exact h (by rw [h4.1, h5.1])
  · rintro x hx y hy rfl
    rw [List.mem_flatMap] at hx hy
    obtain ⟨i, hi, hx⟩ := hx
    obtain ⟨s, hs, hy⟩ := hy
    rw [List.mem_map] at hx hy
    obtain ⟨t, ht, rfl⟩ := hx
    obtain ⟨k, hk, h3⟩ := hy
    rw [List.mem_range] at hk
    have h1 := hg t ht
    have h2 := he s hs
    simp only [S41.mk.injEq] at h3
    have h4 := mul_eq _ _ _ _ _ (by omega) (by omega) (by omega) (by omega) h3.1
    have h5 := mul_eq _ _ _ _ _ (by omega) (by omega) (by omega) (by omega) h3.2
    omega
theorem prod_steps : sortP (imAll n1 n2 e g) = spAll n1 n2 (rowL e) (rowL g) := sortP_is (prod_nodup he hg hep hgp) (prod_asc he hg hep hgp) (prod_mem he hg)
end
end Go.Proofs.Ytihfpngolcjkiaa.P
