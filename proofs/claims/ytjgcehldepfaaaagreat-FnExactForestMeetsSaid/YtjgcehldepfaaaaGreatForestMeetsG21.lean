/- How the laws' arguments read: a slice of numbers, of pairs, of lists of numbers, out of the form's own reading; for every world. -/
import Derived.ProofKit
import Derived.OpenShut
import Derived.Deep.Matrix
import Derived.Lib.SmallJoins
import Derived.Test.YtjgcehldepfaaaaGreatForestMeetsG19
namespace Go.Proofs.YtjgcehldepfaaaaGreat.P
open Go.RowKit Go.Deep Go.ChangeShapes Go.Joins Go.Proofs.YtjgcehldepfaaaaGreatW.PrintWords
set_option linter.unusedVariables false
set_option linter.unusedSimpArgs false
def iO (l : List Int) : Prop := l.length ≤ 9223372036854775807 ∧ ∀ n ∈ l, (Lit.int .i64 n).wf = true
def kX (l : List S63) : Prop := l.length ≤ 9223372036854775807 ∧ ∀ e ∈ l, (Lit.int .i64 e.f0).wf = true ∧ (Lit.int .i64 e.f1).wf = true
section
variable {H : Type} {enc : TypeId × Value → H} {W : World} {base : Nat} {held : Bool} {fuel : Nat}
theorem read_ints {v : Value} {y : DataW H × List MemPlace} (h : DataW.trod enc Tryz.prog W base (fun _ => true) held fuel 25 [v] = some y) :
   ∃ (A : Option Addr) (c : Nat) (l : List Int), v = .slice A l.length c ∧ l.length ≤ c ∧ Kd.C (Kd.int .i64) W A l.length l ∧ iO l := by
 rcases open_ints Tryz.underlying25 Tryz.underlying3 (by kernel_rfl) h with ⟨hcs, _⟩ | ⟨a, len, cap, zs, hcs, _, hl, hm, hz, _, hcell, hwf⟩
 · injection hcs with hv _
   exact ⟨none, 0, [], hv, ar _, ⟨rfl, Nat.zero_le _, fun h0 => absurd h0 (Nat.lt_irrefl _)⟩, ⟨Nat.zero_le _, fun n hn => by cases hn⟩⟩
 · injection hcs with hv _
   simp only [if_true] at hz
   have hlen : (zs.take len).length = len := by rw [List.length_take]; omega
   refine ⟨some a, cap, zs.take len, by rw [hlen]; exact hv, by omega, ⟨rfl, by unfold maxLen at hm; omega, fun _ => ⟨a, rfl, fun j p hj => ⟨[.int .i64 p], rfl, rfl, fun i u hi => ?_⟩⟩⟩, ⟨by rw [hlen]; unfold maxLen at hm; omega, fun n hn => hwf n (List.mem_of_mem_take hn)⟩⟩
   cases i with
   | succ i => simp at hi
   | zero =>
    have hu : Value.int .i64 p = u := by simpa using hi
    subst hu
    have hj2 := (List.getElem?_eq_some_iff.1 hj).1
    rw [hlen] at hj2
    have hj3 : zs[j]? = some p := by rw [List.getElem?_take, if_pos hj2] at hj; exact hj
    have := hcell j (by omega)
    rw [List.getD_eq_getElem?_getD, hj3] at this
    simpa [show (Kd.int .i64).sz = 1 from rfl] using this
theorem read_prs {v : Value} {y : DataW H × List MemPlace} (h : DataW.trod enc Tryz.prog W base (fun _ => true) held fuel 22 [v] = some y) :
   ∃ (A : Option Addr) (c : Nat) (l : List S63), v = .slice A l.length c ∧ l.length ≤ c ∧ Kd.C k63 W A l.length l ∧ kX l := by
 rcases open_slice Tryz.underlying22 h with ⟨hcs, _⟩ | ⟨a, len, cap, m, n, D, Pl, hcs, _, hl, hm, hmm, _, hx⟩
 · injection hcs with hv _
   exact ⟨none, 0, [], hv, ar _, ⟨rfl, Nat.zero_le _, fun h0 => absurd h0 (Nat.lt_irrefl _)⟩, ⟨Nat.zero_le _, fun n hn => by cases hn⟩⟩
 · injection hcs with hv _
   have hce : Tryz.prog.cellsOf 63 = 2 := by kernel_rfl
   have hci : Tryz.prog.cellsOf 3 = 1 := by kernel_rfl
   have each : ∀ i, i < len → ∃ e : S63, (W.cell? (a.add (i * 2)) = some (.int .i64 e.f0) ∧ W.cell? (a.add (i * 2 + 1)) = some (.int .i64 e.f1)) ∧ (Lit.int .i64 e.f0).wf = true ∧ (Lit.int .i64 e.f1).wf = true := by
     intro i hi
     obtain ⟨cs', h1, h2⟩ := hx i (by simp only [if_true] at hmm; omega)
     rw [hce] at h1
     obtain ⟨_, hcl, hcc⟩ := World.cells?_some h1
     obtain ⟨c0, c1, rfl⟩ : ∃ c0 c1, cs' = [c0, c1] := by
       match cs', hcl with
       | [c0, c1], _ => exact ⟨c0, c1, rfl⟩
     obtain ⟨xs, q, rfl, hq, _, hxl, he⟩ := DataW.trod_array Tryz.underlying63 h2
     have e0 := he 0 (by omega)
     have e1 := he 1 (by omega)
     simp only [hci] at e0 e1
     obtain ⟨y0, hy0⟩ : ∃ y0, xs[0]? = some y0 := ⟨xs[0], List.getElem?_eq_getElem (by omega)⟩
     obtain ⟨y1, hy1⟩ : ∃ y1, xs[1]? = some y1 := ⟨xs[1], List.getElem?_eq_getElem (by omega)⟩
     rw [hy0] at e0
     rw [hy1] at e1
     obtain ⟨n0, k0, _, w0⟩ := DataW.trod_int Tryz.underlying3 e0
     obtain ⟨n1, k1, _, w1⟩ := DataW.trod_int Tryz.underlying3 e1
     simp at k0 k1
     subst k0
     subst k1
     have f0 := hcc 0 (by omega)
     have f1 := hcc 1 (by omega)
     refine ⟨⟨n0, n1⟩, ⟨?_, ?_⟩, w0, w1⟩
     · rw [Addr.add_add, Nat.add_zero] at f0
       simpa using f0
     · rw [Addr.add_add] at f1
       simpa using f1
   have hlen : ((List.range len).map fun i => if hi : i < len then (each i hi).choose else dJ).length = len := by simp
   refine ⟨some a, cap, (List.range len).map fun i => if hi : i < len then (each i hi).choose else dJ, by rw [hlen]; exact hv, by omega, ⟨rfl, by unfold maxLen at hm; omega, fun _ => ⟨a, rfl, fun j p hj => ?_⟩⟩, ⟨by rw [hlen]; unfold maxLen at hm; omega, ?_⟩⟩
   · have hj2 := (List.getElem?_eq_some_iff.1 hj).1
     rw [hlen] at hj2
     have hp : (each j hj2).choose = p := by
       rw [List.getElem?_map, List.getElem?_range hj2] at hj
       simpa [hj2] using hj
     obtain ⟨⟨h1, h2⟩, _⟩ := (each j hj2).choose_spec
     rw [hp] at h1 h2
     refine ⟨[.int .i64 p.f0, .int .i64 p.f1], rfl, rq W p, fun i u hi => ?_⟩
     rw [show k63.sz = 2 from rfl]
     match i, hi with
     | 0, hi =>
       have hu : Value.int .i64 p.f0 = u := by simpa using hi
       subst hu
       exact h1
     | 1, hi =>
       have hu : Value.int .i64 p.f1 = u := by simpa using hi
       subst hu
       exact h2
   · intro e he
     rw [List.mem_map] at he
     obtain ⟨r, hr, rfl⟩ := he
     have hr2 := List.mem_range.1 hr
     simp only [hr2, dif_pos]
     exact (each r hr2).choose_spec.2
end
open Go.RowKit YtjgcehldepfaaaaGreatW.PrintWords Go.Proofs.YtjgcehldepfaaaaGreatW.PrintLast Go.Proofs.YtjgcehldepfaaaaGreatW.PrintMore
attribute [local go_sem] bl bh bi bd bj bf bk bg
set_option linter.unusedVariables false
set_option linter.unusedSimpArgs false
def fj : Nat → List Int → List Int → Int → Option (Bool)
 | 0, _, _, _ => none
 | k + 1, x0, x1, x5 => if x5 < (x0.length : Int) then (if 0 ≤ x5 then (if x5 < (x1.length : Int) then (if (rd x0 x5) = (rd x1 x5) then (fj k x0 x1 (wrap64 (x5 + 1))) else (some false)) else (none)) else (none)) else (some true)
def gI (k : Nat) (l0 : List Int) (l1 : List Int) : Option (Bool) := if (l0.length : Int) = (l1.length : Int) then (fj k l0 l1 0) else (some false)
set_option maxHeartbeats 8000000 in
set_option maxRecDepth 100000 in
theorem mP (k : Nat) (A0 : Option Addr) (c0 : Nat) (l0 : List Int) (A1 : Option Addr) (c1 : Nat) (l1 : List Int) (r : Bool) (w : World) (hr0 : Kd.C (Kd.int .i64) w A0 l0.length l0) (hc0 : l0.length ≤ c0) (hr1 : Kd.C (Kd.int .i64) w A1 l1.length l1) (hc1 : l1.length ≤ c1) (h : gI k l0 l1 = some r) :
 Calls Tryz.prog 10 #[.slice A0 l0.length c0, .slice A1 l1.length c1] w fun e w' => e = .returned (.bool r) ∧ Drawn0 w w' := by
 have HR0 := Aside0.mk hr0
 have HC0 := Aside0.mk hc0
 clear hr0 hc0
 have HR1 := Aside0.mk hr1
 have HC1 := Aside0.mk hc1
 clear hr1 hc1
 have H := h
 unfold gI at H
 clear h
 by_cases c3 : (l0.length : Int) = (l1.length : Int)
 · rw [if_pos c3] at H
   have c3b0 : ((l0.length : Int) == (l1.length : Int)) = true := beq_iff_eq.mpr c3
   have c3b1 : ((l0.length : Int) != (l1.length : Int)) = false := bne_eq_false_iff_eq.mpr c3
   have c3b2 : (l0.length == l1.length) = true := by first | simpa using c3 | (simp at c3 ⊢; omega)
   clear c3
   have H' := Aside0.mk H
   clear H
   go_enter Tryz.func10, Tryz.ntmps10
   go_wp2
   repeat (go_quiet (fail); try go_wp2)
   go_loopg [5] k (fun kq v5 w' => ∃ (x5_1 : Int), v5 = .int .i64 x5_1 ∧ Aside0 (fj kq l0 l1 x5_1 = some r) ∧ Aside0 (kq ≤ k) ∧ Drawn0 w w')
   case atStart => exact ⟨(0), (by first | rfl | (simp; done) | (simp [*]; done)), H', ⟨ar _⟩, by repeat (first | exact Drawn0.refl _ | apply Drawn0.step)⟩
   case round =>
    clear H'
    try clear c1
    try clear p2
    try clear c3
    try clear c3b0
    try clear c3b1
    try clear c3b2
    obtain ⟨x5_1, rfl, HA, HK1, ⟨m1, rfl⟩⟩ := hrel
    cases gk with
    | zero => exact absurd HA.out (by simp [fj])
    | succ k1 =>
     have H := HA.out
     clear HA
     simp only [fj] at H
     by_cases c4 : x5_1 < (l0.length : Int)
     · rw [if_pos c4] at H
       have c4b0 := af c4
       clear c4
       by_cases c5 : 0 ≤ x5_1
       case neg => rw [if_neg c5] at H; simp at H
       rw [if_pos c5] at H
       have c5b0 := af c5
       clear c5
       by_cases c6 : x5_1 < (l1.length : Int)
       case neg => rw [if_neg c6] at H; simp at H
       rw [if_pos c6] at H
       have c6b0 := af c6
       clear c6
       by_cases c7 : (rd l0 x5_1) = (rd l1 x5_1)
       · rw [if_pos c7] at H
         have c7b0 : ((rd l0 x5_1) == (rd l1 x5_1)) = true := beq_iff_eq.mpr c7
         have c7b1 : ((rd l0 x5_1) != (rd l1 x5_1)) = false := bne_eq_false_iff_eq.mpr c7
         clear c7
         have H' := Aside0.mk H
         clear H
         have p127 : 0 ≤ (x5_1 : Int) := ac zA
         have q127 : x5_1 < (l0.length : Int) := ac zA
         obtain ⟨ad127, e127, hx127_0⟩ := Kd.at_int HR0.out x5_1 p127 q127
         cases e127
         replace p127 := eq_true p127
         replace q127 := eq_true q127
         have p128 : 0 ≤ (x5_1 : Int) := ac zA
         have q128 : x5_1 < (l1.length : Int) := ac zA
         obtain ⟨ad128, e128, hx128_0⟩ := Kd.at_int HR1.out x5_1 p128 q128
         cases e128
         replace p128 := eq_true p128
         replace q128 := eq_true q128
         go_wp2
         repeat (go_quiet (fail); try go_wp2)
         go_roundg k1
         case measure => have := HK1.out; omega
         case rel => exact ⟨(wrap64 (x5_1 + 1)), (by first | rfl | (simp; done) | (simp [*]; done)), H', ⟨by have := HK1.out; omega⟩, by repeat (first | exact Drawn0.refl _ | apply Drawn0.step)⟩
       · rw [if_neg c7] at H
         have c7b0 : ((rd l0 x5_1) == (rd l1 x5_1)) = false := beq_eq_false_iff_ne.mpr c7
         have c7b1 : ((rd l0 x5_1) != (rd l1 x5_1)) = true := bne_iff_ne.mpr c7
         obtain rfl := ap H
         have p127 : 0 ≤ (x5_1 : Int) := ac zA
         have q127 : x5_1 < (l0.length : Int) := ac zA
         obtain ⟨ad127, e127, hx127_0⟩ := Kd.at_int HR0.out x5_1 p127 q127
         cases e127
         replace p127 := eq_true p127
         replace q127 := eq_true q127
         have p128 : 0 ≤ (x5_1 : Int) := ac zA
         have q128 : x5_1 < (l1.length : Int) := ac zA
         obtain ⟨ad128, e128, hx128_0⟩ := Kd.at_int HR1.out x5_1 p128 q128
         cases e128
         replace p128 := eq_true p128
         replace q128 := eq_true q128
         go_wp2
         repeat (go_quiet (fail); try go_wp2)
         go_ret
         exact ⟨by first | rfl | (simp; done) | (simp [*]; done), by repeat (first | exact Drawn0.refl _ | apply Drawn0.step)⟩
     · rw [if_neg c4] at H
       have c4b0 : decide (x5_1 < (l0.length : Int)) = false := ao c4
       clear c4
       obtain rfl := ap H
       go_wp2
       repeat (go_quiet (fail); try go_wp2)
       go_ret
       exact ⟨by first | rfl | (simp; done) | (simp [*]; done), by repeat (first | exact Drawn0.refl _ | apply Drawn0.step)⟩
 · rw [if_neg c3] at H
   have c3b0 : ((l0.length : Int) == (l1.length : Int)) = false := beq_eq_false_iff_ne.mpr c3
   have c3b1 : ((l0.length : Int) != (l1.length : Int)) = true := bne_iff_ne.mpr c3
   have c3b2 : (l0.length == l1.length) = false := by first | simpa using c3 | (simp at c3 ⊢; omega)
   obtain rfl := ap H
   go_enter Tryz.func10, Tryz.ntmps10
   go_wp2
   repeat (go_quiet (fail); try go_wp2)
   go_ret
   exact ⟨by first | rfl | (simp; done) | (simp [*]; done), by repeat (first | exact Drawn0.refl _ | apply Drawn0.step)⟩
section
variable {α β : Type}
theorem Ev.pos {c : Prop} [Decidable c] {f g : Nat → Option α} {r : α} (h : c) (k : Ev f r) : Ev (fun n => if c then f n else g n) r := by simpa only [if_pos h] using k
theorem Ev.neg {c : Prop} [Decidable c] {f g : Nat → Option α} {r : α} (h : ¬ c) (k : Ev g r) : Ev (fun n => if c then f n else g n) r := by simpa only [if_neg h] using k
theorem Ev.bindo {o : Option α} {f : Nat → α → Option β} {a : α} {r : β} (h : o = some a) (k : Ev (fun n => f n a) r) : Ev (fun n => o.bind (f n)) r := by simpa only [h, Option.bind_some] using k
theorem Ev.some {o : Option α} {r : α} (h : o = some r) : Ev (fun _ => o) r := ⟨0, fun _ _ => h⟩
end
theorem cL {m : Int} (h : -9223372036854775808 ≤ m) (h2 : m ≤ 9223372036854775807) : wrap64 m = m := by unfold wrap64; omega
theorem aJ {m n : Nat} (h : m < n) (hn : n ≤ 9223372036854775807) : wrap64 ((m : Int) + 1) = ((m + 1 : Nat) : Int) := by unfold wrap64; omega
theorem aM (l : List Int) (m : Nat) (h : m < l.length) : rd l (m : Int) = l[m] := by simp [rd, List.getD_eq_getElem?_getD, List.getElem?_eq_getElem h]
theorem eE (l : List S63) (m : Nat) (h : m < l.length) : aa l (m : Int) = l[m] := by simp [aa, List.getD_eq_getElem?_getD, List.getElem?_eq_getElem h]
theorem oy (a : Int) (l : List S63) (hl : l.length ≤ 9223372036854775807) : ∃ t, gH a l 1048576 = some t ∧ (t < 0 ∨ l.length ≤ 1048576) := by
 unfold gH jh
 rw [cL (m := 1048576 - (l.length : Int)) (by omega) (by omega)]
 by_cases h : (1048576 - (l.length : Int)) < 0
 · rw [if_pos h]; exact ⟨-1, rfl, .inl (by omega)⟩
 · rw [if_neg h, Option.bind_some, if_neg h]; exact ⟨_, rfl, .inr (by omega)⟩
theorem lc {α : Type} (l acc : List α) (m : Nat) (hm : m < l.length) (ha : acc.length = l.length) (h : acc.take m = l.take m) : (acc.set m l[m]).take (m + 1) = l.take (m + 1) := by
 rw [List.take_succ_eq_append_getElem (by rw [List.length_set]; omega), List.take_succ_eq_append_getElem hm, List.getElem_set_self, List.take_set_of_le (ar _), h]
theorem ot (l : List S63) (hl : l.length ≤ 1048576) (d : Nat) : ∀ (acc : List S63) (m : Nat), l.length - m = d → m ≤ l.length → acc.length = l.length → acc.take m = l.take m →
  Ev (fun k => dW k l acc (m : Int)) l := by
 induction d with
 | zero =>
  intro acc m h0 h1 h2 h3
  refine Ev.step (fun k => by rw [dW]) ?_
  refine Ev.neg (by omega) ?_
  have : acc = l := by rw [← List.take_length (l := acc), ← List.take_length (l := l), h2, show l.length = m by omega]; exact h3
  rw [this]
  exact Ev.now _
 | succ d ih =>
  intro acc m h0 h1 h2 h3
  have hm : m < l.length := by omega
  refine Ev.step (fun k => by rw [dW]) ?_
  refine Ev.pos (by omega) (Ev.pos (by omega) (Ev.bindo rfl (Ev.pos (by omega) ?_)))
  rw [aJ hm (by omega), eE l m hm, Int.toNat_natCast]
  exact ih _ (m + 1) (by omega) (by omega) (by rw [List.length_set]; exact h2) (lc l acc m hm h2 h3)
theorem ou (l : List S63) (hl : l.length ≤ 1048576) : Ev (fun k => il k l) l := by
 unfold il
 refine Ev.pos (by omega) (Ev.pos (by omega) ?_)
 exact ot l hl l.length _ 0 (by omega) (Nat.zero_le _) (by simp) (by simp)
theorem ov (a : Int) (l : List S63) (hl : l.length ≤ 1048576) : Ev (fun k => im k a l) (a, l) := by
 unfold im
 exact Ev.bind (ou l hl) (Ev.now _)
theorem oq (l : List Int) (hl : l.length ≤ 1048576) (d : Nat) : ∀ (acc : List Int) (m : Nat), l.length - m = d → m ≤ l.length → acc.length = l.length → acc.take m = l.take m →
  Ev (fun k => dV k l acc (m : Int)) l := by
 induction d with
 | zero =>
  intro acc m h0 h1 h2 h3
  refine Ev.step (fun k => by rw [dV]) ?_
  refine Ev.neg (by omega) ?_
  have : acc = l := by rw [← List.take_length (l := acc), ← List.take_length (l := l), h2, show l.length = m by omega]; exact h3
  rw [this]
  exact Ev.now _
 | succ d ih =>
  intro acc m h0 h1 h2 h3
  have hm : m < l.length := by omega
  refine Ev.step (fun k => by rw [dV]) ?_
  refine Ev.pos (by omega) (Ev.pos (by omega) (Ev.pos (by omega) ?_))
  rw [aJ hm (by omega), aM l m hm, Int.toNat_natCast]
  exact ih _ (m + 1) (by omega) (by omega) (by rw [List.length_set]; exact h2) (lc l acc m hm h2 h3)
theorem la (l : List Int) (hl : l.length ≤ 1048576) : Ev (fun k => gF k l) l := by
 unfold gF
 refine Ev.pos (by omega) (Ev.pos (by omega) ?_)
 exact oq l hl l.length _ 0 (by omega) (Nat.zero_le _) (by simp) (by simp)
theorem tt (l : List S63) (hl : l.length ≤ 1048576) (d : Nat) : ∀ (m : Nat), l.length - m = d → m ≤ l.length → Ev (fun k => fk k l l (m : Int)) true := by
 induction d with
 | zero =>
  intro m h0 h1
  refine Ev.step (fun k => by rw [fk]) ?_
  exact Ev.neg (by omega) (Ev.now _)
 | succ d ih =>
  intro m h0 h1
  have hm : m < l.length := by omega
  refine Ev.step (fun k => by rw [fk]) ?_
  refine Ev.pos (by omega) (Ev.pos (by omega) (Ev.pos (by omega) (Ev.bindo (a := true) (by simp [ji]) (Ev.pos rfl ?_))))
  rw [aJ hm (by omega)]
  exact ih (m + 1) (by omega) (by omega)
theorem tu (l : List S63) (hl : l.length ≤ 1048576) : Ev (fun k => ip k l l) true := by
 unfold ip
 exact Ev.pos rfl (tt l hl l.length 0 (by omega) (Nat.zero_le _))
theorem tv (a : Int) (l : List S63) (hl : l.length ≤ 1048576) : Ev (fun k => iq k a l a l) true := by
 unfold iq
 exact Ev.pos rfl (Ev.bind (tu l hl) (Ev.pos rfl (Ev.now _)))
theorem tr (l : List Int) (hl : l.length ≤ 1048576) (d : Nat) : ∀ (m : Nat), l.length - m = d → m ≤ l.length → Ev (fun k => fj k l l (m : Int)) true := by
 induction d with
 | zero =>
  intro m h0 h1
  refine Ev.step (fun k => by rw [fj]) ?_
  exact Ev.neg (by omega) (Ev.now _)
 | succ d ih =>
  intro m h0 h1
  have hm : m < l.length := by omega
  refine Ev.step (fun k => by rw [fj]) ?_
  refine Ev.pos (by omega) (Ev.pos (by omega) (Ev.pos (by omega) (Ev.pos rfl ?_)))
  rw [aJ hm (by omega)]
  exact ih (m + 1) (by omega) (by omega)
theorem nz (l : List Int) (hl : l.length ≤ 1048576) : Ev (fun k => gI k l l) true := by
 unfold gI
 exact Ev.pos rfl (tr l hl l.length 0 (by omega) (Nat.zero_le _))
theorem jo (a lo hi : Int) : eZ a lo hi = some (decide (lo ≤ a) && decide (a ≤ hi)) := by
 unfold eZ
 by_cases h : lo ≤ a
 · rw [if_pos h, af h, Bool.true_and]
 · rw [if_neg h, ao h, Bool.false_and]
theorem jD (a lo hi : Int) : d3 a lo hi = some (decide (lo ≤ a) && decide (a ≤ hi)) := by
 unfold d3
 by_cases h : lo ≤ a
 · rw [if_pos h, af h, Bool.true_and]
 · rw [if_neg h, ao h, Bool.false_and]
def bN (a b : S63) : Bool := decide (a.f0 < b.f0) || (decide (a.f0 = b.f0) && decide (a.f1 < b.f1))
theorem tz (a b : S63) : gn a.f0 a.f1 b.f0 b.f1 = some (bN a b) := by
 unfold gn bN
 by_cases h : a.f0 < b.f0
 · rw [if_pos h, af h, Bool.true_or]
 · rw [if_neg h, ao h, Bool.false_or]
   by_cases h2 : a.f0 = b.f0
   · rw [if_pos h2, af h2, Bool.true_and]
   · rw [if_neg h2, ao h2, Bool.false_and]
theorem tP (a b : S63) : (gT a b < 0) ↔ bN a b = true := by
 unfold gT bN dv
 simp only [Bool.or_eq_true, Bool.and_eq_true, decide_eq_true_eq]
 by_cases h : a.f0 < b.f0
 · simp [h]
 · by_cases h2 : b.f0 < a.f0
   · have : ¬ a.f0 = b.f0 := by omega
     simp [h, h2, this]
   · have h3 : a.f0 = b.f0 := by omega
     by_cases h4 : a.f1 < b.f1
     · simp [h3, h4]
     · by_cases h5 : b.f1 < a.f1 <;> simp [h3, h4, h5]
def bR (n : Int) : Option S63 → List S63 → Bool
 | _, [] => true
 | p, e :: t => (decide (0 ≤ e.f0) && decide (e.f0 < e.f1) && decide (e.f1 < n)) && ((match p with | none => true | some q => bN q e) && bR n (some e) t)
def cF (l : List S63) : Nat → Option S63
 | 0 => none
 | m + 1 => l[m]?
theorem nr (l : List S63) (n : Int) (m : Nat) (hm : m < l.length) : bR n (cF l m) (l.drop m) = ((decide (0 ≤ l[m].f0) && decide (l[m].f0 < l[m].f1) && decide (l[m].f1 < n)) && ((match cF l m with | none => true | some q => bN q l[m]) && bR n (cF l (m + 1)) (l.drop (m + 1)))) := by
 rw [List.drop_eq_getElem_cons hm, show cF l (m + 1) = some l[m] from List.getElem?_eq_getElem hm]
 cases cF l m <;> rfl
theorem rk (l : List S63) (n : Int) (hn : 0 ≤ n) (hn2 : n ≤ 4611686018427387904) (hl : l.length ≤ 1048576) (d : Nat) : ∀ (m : Nat), l.length - m = d → m ≤ l.length →
  Ev (fun k => dO k l n (m : Int)) (bR n (cF l m) (l.drop m)) := by
 induction d with
 | zero =>
  intro m h0 h1
  refine Ev.step (fun k => by rw [dO]) ?_
  have e3 : l.drop m = [] := List.drop_eq_nil_of_le (by omega)
  rw [e3]
  refine Ev.neg (by omega) ?_
  cases cF l m <;> exact Ev.now _
 | succ d ih =>
  intro m h0 h1
  have hm : m < l.length := by omega
  refine Ev.step (fun k => by rw [dO]) ?_
  rw [nr l n m hm]
  refine Ev.pos (by omega) (Ev.pos (by omega) ?_)
  rw [eE l m hm, cL (m := n - 1) (by omega) (by omega)]
  have ihm := ih (m + 1) (by omega) (by omega)
  rw [← aJ hm (by omega)] at ihm
  generalize bR n (cF l (m + 1)) (l.drop (m + 1)) = R at ihm ⊢
  refine Ev.bindo (jo _ _ _) ?_
  by_cases c1 : 0 ≤ l[m].f0
  · by_cases c2 : l[m].f0 ≤ n - 1
    · refine Ev.pos (by simp [c1, c2]) (Ev.bindo (jo _ _ _) ?_)
      by_cases c3 : 0 ≤ l[m].f1 ∧ l[m].f1 ≤ n - 1
      · refine Ev.pos (by simp [c3.1, c3.2]) ?_
        by_cases c4 : l[m].f0 ≥ l[m].f1
        · have : (decide (0 ≤ l[m].f0) && decide (l[m].f0 < l[m].f1) && decide (l[m].f1 < n)) = false := by simp; omega
          rw [this, Bool.false_and]
          exact Ev.pos c4 (Ev.now _)
        · have : (decide (0 ≤ l[m].f0) && decide (l[m].f0 < l[m].f1) && decide (l[m].f1 < n)) = true := by simp; omega
          rw [this, Bool.true_and]
          refine Ev.neg c4 ?_
          cases m with
          | zero =>
           refine Ev.neg (by omega) ?_
           simp only [cF, Bool.true_and]
           exact ihm
          | succ q =>
           have hq : q < l.length := by omega
           have hw : wrap64 (((q + 1 : Nat) : Int) - 1) = (q : Int) := by unfold wrap64; omega
           refine Ev.pos (by omega) ?_
           rw [hw]
           refine Ev.pos (by omega) (Ev.pos (by omega) ?_)
           rw [eE l q hq]
           refine Ev.bindo (tz _ _) ?_
           simp only [cF, List.getElem?_eq_getElem hq]
           cases bN l[q] l[q + 1] with
           | true => rw [Bool.true_and]; exact Ev.pos rfl ihm
           | false => rw [Bool.false_and]; exact Ev.neg (by decide) (Ev.now _)
      · have : (decide (0 ≤ l[m].f0) && decide (l[m].f0 < l[m].f1) && decide (l[m].f1 < n)) = false := by simp; omega
        rw [this, Bool.false_and]
        exact Ev.neg (by simp; omega) (Ev.now _)
    · have : (decide (0 ≤ l[m].f0) && decide (l[m].f0 < l[m].f1) && decide (l[m].f1 < n)) = false := by simp; omega
      rw [this, Bool.false_and]
      exact Ev.neg (by simp; omega) (Ev.now _)
  · have : (decide (0 ≤ l[m].f0) && decide (l[m].f0 < l[m].f1) && decide (l[m].f1 < n)) = false := by simp; omega
    rw [this, Bool.false_and]
    exact Ev.neg (by simp; omega) (Ev.now _)
theorem ru (l : List S63) (n : Int) (hl : l.length ≤ 1048576) (d : Nat) : ∀ (m : Nat), l.length - m = d → m ≤ l.length →
    Ev (fun k => dZ k l n l (l.length : Int) (m : Int)) (bR n (cF l m) (l.drop m)) := by
  induction d with
  | zero =>
    intro m h0 h1
    refine Ev.step (fun k => by rw [dZ]) ?_
    have e3 : l.drop m = [] := List.drop_eq_nil_of_le (by omega)
    rw [e3]
    refine Ev.neg (by omega) ?_
    cases cF l m <;> exact Ev.now _
  | succ d ih =>
    intro m h0 h1
    have hm : m < l.length := by omega
    refine Ev.step (fun k => by rw [dZ]) ?_
    rw [nr l n m hm]
    refine Ev.pos (by omega) (Ev.pos (by omega) (Ev.pos (by omega) ?_))
    rw [eE l m hm]
    have ihm := ih (m + 1) (by omega) (by omega)
    rw [← aJ hm (by omega)] at ihm
    generalize bR n (cF l (m + 1)) (l.drop (m + 1)) = R at ihm ⊢
    by_cases c1 : l[m].f0 < 0
    · have : (decide (0 ≤ l[m].f0) && decide (l[m].f0 < l[m].f1) && decide (l[m].f1 < n)) = false := by simp; omega
      rw [this, Bool.false_and]
      exact Ev.pos c1 (Ev.now _)
    · refine Ev.neg c1 ?_
      by_cases c2 : l[m].f0 ≥ l[m].f1
      · have : (decide (0 ≤ l[m].f0) && decide (l[m].f0 < l[m].f1) && decide (l[m].f1 < n)) = false := by simp; omega
        rw [this, Bool.false_and]
        exact Ev.pos c2 (Ev.now _)
      · refine Ev.neg c2 ?_
        by_cases c3 : l[m].f1 ≥ n
        · have : (decide (0 ≤ l[m].f0) && decide (l[m].f0 < l[m].f1) && decide (l[m].f1 < n)) = false := by simp; omega
          rw [this, Bool.false_and]
          exact Ev.pos c3 (Ev.now _)
        · have : (decide (0 ≤ l[m].f0) && decide (l[m].f0 < l[m].f1) && decide (l[m].f1 < n)) = true := by simp; omega
          rw [this, Bool.true_and]
          refine Ev.neg c3 ?_
          cases m with
          | zero =>
            refine Ev.neg (by omega) ?_
            simp only [cF, Bool.true_and]
            exact ihm
          | succ q =>
            have hq : q < l.length := by omega
            have hw : wrap64 (((q + 1 : Nat) : Int) - 1) = (q : Int) := by unfold wrap64; omega
            refine Ev.pos (by omega) ?_
            rw [hw]
            refine Ev.pos (by omega) (Ev.pos (by omega) ?_)
            rw [eE l q hq]
            refine Ev.bind (a := gT l[q] l[q + 1]) ⟨3, fun k hk => tK _ _ k hk⟩ ?_
            simp only [cF, List.getElem?_eq_getElem hq]
            have hb := tP l[q] l[q + 1]
            cases hbb : bN l[q] l[q + 1] with
            | true => rw [Bool.true_and]; exact Ev.neg (by have := hb.2 hbb; omega) ihm
            | false => rw [Bool.false_and]; exact Ev.pos (by rw [hbb] at hb; have : ¬ gT l[q] l[q+1] < 0 := fun h => by have := hb.1 h; cases this
                                                             omega) (Ev.now _)
theorem rl (l : List S63) (n : Int) (hn : 0 ≤ n) (hn2 : n ≤ 4611686018427387904) (hl : l.length ≤ 1048576) : Ev (fun k => iW k l n) (bR n none l) :=
 rk l n hn hn2 hl l.length 0 (by omega) (Nat.zero_le _)
theorem rv (l : List S63) (n : Int) (hl : l.length ≤ 1048576) : Ev (fun k => jq k l n) (bR n none l) :=
 ru l n hl l.length 0 (by omega) (Nat.zero_le _)
def bH (a : Int) (l : List S63) : Bool := (decide (0 ≤ a) && decide (a ≤ 8)) && bR a none l
theorem mV (a : Int) (l : List S63) (hl : l.length ≤ 1048576) : Ev (fun k => hY k a l) (bH a l) := by
 unfold hY bH
 refine Ev.bindo (jo _ _ _) ?_
 by_cases h : (decide (0 ≤ a) && decide (a ≤ 8)) = true
 · rw [h, Bool.true_and]
   simp at h
   exact Ev.pos rfl (Ev.bind (rl l a h.1 (by omega) hl) (Ev.now _))
 · have h2 : (decide (0 ≤ a) && decide (a ≤ 8)) = false := by simpa using h
   rw [h2, Bool.false_and]
   exact Ev.neg (by decide) (Ev.now _)
theorem jt (a : Int) (l : List S63) (hl : l.length ≤ 1048576) : Ev (fun k => gM k a l) (bH a l) := by
 unfold gM bH
 refine Ev.bindo (jD _ _ _) ?_
 by_cases h : (decide (0 ≤ a) && decide (a ≤ 8)) = true
 · rw [h, Bool.true_and]
   exact Ev.pos rfl (Ev.bind (rv l a hl) (Ev.now _))
 · have h2 : (decide (0 ≤ a) && decide (a ≤ 8)) = false := by simpa using h
   rw [h2, Bool.false_and]
   exact Ev.neg (by decide) (Ev.now _)
theorem dT (l : List (List Int)) (m : Nat) (h : m < l.length) : ai l (m : Int) = l[m] := by simp [ai, List.getD_eq_getElem?_getD, List.getElem?_eq_getElem h]
def ik (l : List (List Int)) (e : List S63) : Prop := l.length ≤ 1048576 ∧ (∀ s ∈ l, s.length ≤ 1048576) ∧ e.length ≤ 1048576
def aZ : List Int → List Int → Bool
 | [], [] => false
 | [], _ :: _ => true
 | _ :: _, [] => false
 | a :: x, b :: y => if a = b then aZ x y else decide (a < b)
theorem tR (x : List Int) : ∀ y, (bI x y ≥ 0) ↔ aZ x y = false := by
 induction x with
 | nil => intro y; cases y <;> simp [bI, aZ]
 | cons a x ih =>
  intro y
  cases y with
  | nil => simp [bI, aZ]
  | cons b y =>
   simp only [bI, aZ]
   unfold dv
   by_cases h : a < b
   · rw [if_pos h, if_neg (by decide), if_neg (by omega), af h]
     simp
   · rw [if_neg h]
     by_cases h2 : a > b
     · rw [if_pos h2, if_neg (by decide), if_neg (by omega), ao h]
       simp
     · rw [if_neg h2, if_pos rfl, if_pos (by omega)]
       exact ih y
section
variable (l : List (List Int)) (e : List S63) (h : ik l e)
include h
end
theorem tZ (c : Nat → Int) (n p : Nat) (h1 : ∀ q, q < p → c q < 0) (h2 : ∀ q, p ≤ q → q < n → ¬ c q < 0) (k : Nat) : ∀ (i j : Nat), i ≤ p → p ≤ j → j ≤ n → j - i < k → cK c k i j = p := by
 induction k with
 | zero => intro i j _ _ _ h; omega
 | succ k ih =>
  intro i j hi hj hn hk
  rw [cK]
  by_cases h : i < j
  · rw [if_pos h]
    by_cases hc : c ((i + j) / 2) < 0
    · rw [if_pos hc]
      have : (i + j) / 2 < p := by
       apply Nat.lt_of_not_le
       intro hp
       exact h2 _ hp (by omega) hc
      exact ih _ _ (by omega) hj hn (by omega)
    · rw [if_neg hc]
      have : p ≤ (i + j) / 2 := by
       apply Nat.le_of_not_lt
       intro hp
       exact hc (h1 _ hp)
      exact ih _ _ hi this (by omega) (by omega)
  · rw [if_neg h]
    omega
theorem kK (x : List Int) : ∀ y z, aZ x y = true → aZ y z = true → aZ x z = true := by
 induction x with
 | nil =>
  intro y z h1 h2
  cases y with
  | nil => simp [aZ] at h1
  | cons b y => cases z with
   | nil => simp [aZ] at h2
   | cons c z => rfl
 | cons a x ih =>
  intro y z h1 h2
  cases y with
  | nil => simp [aZ] at h1
  | cons b y => cases z with
   | nil => simp [aZ] at h2
   | cons c z =>
    simp only [aZ] at h1 h2 ⊢
    by_cases hab : a = b
    · by_cases hbc : b = c
      · rw [if_pos hab] at h1
        rw [if_pos hbc] at h2
        rw [if_pos (hab.trans hbc)]
        exact ih y z h1 h2
      · rw [if_neg hbc, decide_eq_true_eq] at h2
        rw [if_neg (by omega), decide_eq_true_eq]
        omega
    · rw [if_neg hab, decide_eq_true_eq] at h1
      by_cases hbc : b = c
      · rw [if_neg (by omega), decide_eq_true_eq]
        omega
      · rw [if_neg hbc, decide_eq_true_eq] at h2
        rw [if_neg (by omega), decide_eq_true_eq]
        omega
theorem iK (x : List Int) : aZ x x = false := by
 induction x with
 | nil => rfl
 | cons a x ih => rw [aZ, if_pos rfl]; exact ih
theorem kL {x y : List Int} (h : aZ x y = true) : aZ y x = false := by
 cases h2 : aZ y x with
 | false => rfl
 | true =>
  have := kK x y x h h2
  rw [iK] at this
  exact absurd this (by decide)
theorem kF (x y : List Int) : bI x y < 0 ↔ aZ x y = true := by
 have := tR x y
 cases h : aZ x y with
 | true => rw [h] at this; simp only [Bool.true_eq_false, iff_false, ge_iff_le] at this; simp only [iff_true]; omega
 | false => rw [h] at this; simp only [iff_true, ge_iff_le] at this; simp only [Bool.false_eq_true, iff_false]; omega
theorem tQ (x : List Int) : ∀ y, bI x y = 0 ↔ x = y := by
 induction x with
 | nil => intro y; cases y <;> simp [bI]
 | cons a x ih =>
  intro y
  cases y with
  | nil => simp [bI]
  | cons b y =>
   simp only [bI]
   unfold dv
   by_cases h : a < b
   · rw [if_pos h, if_neg (by decide)]
     simp; omega
   · rw [if_neg h]
     by_cases h2 : a > b
     · rw [if_pos h2, if_neg (by decide)]
       simp; omega
     · rw [if_neg h2, if_pos rfl, ih]
       have : a = b := by omega
       simp [this]
def LexS (l : List (List Int)) : Prop := l.Pairwise (fun x y => aZ x y = true)
theorem kJ (x : List Int) : ∀ y, aZ x y = false → aZ y x = false → x = y := by
 induction x with
 | nil =>
  intro y h1 h2
  cases y with
  | nil => rfl
  | cons b y => simp [aZ] at h1
 | cons a x ih =>
  intro y h1 h2
  cases y with
  | nil => simp [aZ] at h2
  | cons b y =>
   simp only [aZ] at h1 h2
   by_cases c : a = b
   · subst c
     rw [if_pos rfl] at h1 h2
     rw [ih y h1 h2]
   · rw [if_neg c, decide_eq_false_iff_not] at h1
     rw [if_neg (fun h => c h.symm), decide_eq_false_iff_not] at h2
     omega
theorem oA {α : Type} {lt : α → α → Bool} (hi : ∀ x, lt x x = false) (ha : ∀ x y, lt x y = true → lt y x = false) (l1 : List α) : ∀ l2, l1.Pairwise (fun x y => lt x y = true) → l2.Pairwise (fun x y => lt x y = true) → (∀ s, s ∈ l1 ↔ s ∈ l2) → l1 = l2 := by
 induction l1 with
 | nil =>
  intro l2 _ _ h
  cases l2 with
  | nil => rfl
  | cons b u => exact absurd ((h b).2 (List.mem_cons_self ..)) (by simp)
 | cons a t ih =>
  intro l2 h1 h2 h
  cases l2 with
  | nil => exact absurd ((h a).1 (List.mem_cons_self ..)) (by simp)
  | cons b u =>
   have p1 := List.pairwise_cons.1 h1
   have p2 := List.pairwise_cons.1 h2
   have hab : a = b := by
     rcases List.mem_cons.1 ((h a).1 (List.mem_cons_self ..)) with e | e
     · exact e
     · rcases List.mem_cons.1 ((h b).2 (List.mem_cons_self ..)) with e2 | e2
       · exact e2.symm
       · have := ha _ _ (p1.1 b e2)
         rw [p2.1 a e] at this
         exact absurd this (by decide)
   subst hab
   rw [ih u p1.2 p2.2 fun s => ?_]
   constructor
   · intro hs
     rcases List.mem_cons.1 ((h s).1 (List.mem_cons_of_mem _ hs)) with e | e
     · subst e
       have := p1.1 s hs
       rw [hi] at this
       exact absurd this (by decide)
     · exact e
   · intro hs
     rcases List.mem_cons.1 ((h s).2 (List.mem_cons_of_mem _ hs)) with e | e
     · subst e
       have := p2.1 s hs
       rw [hi] at this
       exact absurd this (by decide)
     · exact e
theorem qW (l1 l2 : List (List Int)) (h1 : LexS l1) (h2 : LexS l2) (h : ∀ s, s ∈ l1 ↔ s ∈ l2) : l1 = l2 :=
 oA iK (fun _ _ h => kL h) l1 l2 h1 h2 h
def bQ (ls : List (List Int)) : List (List Int) := ls.mergeSort (fun x y => !aZ y x)
theorem lG (ls : List (List Int)) : (bQ ls).length = ls.length := List.length_mergeSort ls
theorem jR (ls : List (List Int)) (s : List Int) : s ∈ bQ ls ↔ s ∈ ls := List.mem_mergeSort
theorem nN {x y z : List Int} (h1 : aZ x y = false) (h2 : aZ y z = false) : aZ x z = false := by
 cases h : aZ x z with
 | false => rfl
 | true =>
  cases h3 : aZ y x with
  | true =>
   have := kK y x z h3 h
   rw [h2] at this
   exact absurd this (by decide)
  | false =>
   have := kJ x y h1 h3
   subst this
   rw [h2] at h
   exact absurd h (by decide)
theorem lF (ls : List (List Int)) (h : ls.Nodup) : LexS (bQ ls) := by
 have h1 : (bQ ls).Pairwise (fun x y => (!aZ y x) = true) := List.pairwise_mergeSort
  (fun x y z h1 h2 => by
   rw [Bool.not_eq_true'] at *
   exact nN h2 h1)
  (fun x y => by
   cases c : aZ y x with
   | false => rfl
   | true => rw [kL c]; rfl) ls
 have h2 : (bQ ls).Nodup := (List.mergeSort_perm ls _).nodup_iff.2 h
 unfold LexS
 refine List.Pairwise.imp ?_ (List.pairwise_and_iff.2 ⟨h1, h2⟩)
 rintro x y ⟨h3, h4⟩
 rw [Bool.not_eq_true'] at h3
 cases c : aZ x y with
 | true => rfl
 | false => exact absurd (kJ x y c h3) h4
theorem LexS.nodup {l : List (List Int)} (h : LexS l) : l.Nodup := h.imp fun {x y} hxy e => by
 subst e
 rw [iK] at hxy
 exact absurd hxy (by decide)
theorem kz (n : Int) (l : List S63) : ∀ p, bR n p l = true → ∀ e ∈ l, 0 ≤ e.f0 ∧ e.f0 < e.f1 ∧ e.f1 < n := by
 induction l with
 | nil => intro p h e he; simp at he
 | cons x t ih =>
  intro p h e he
  simp only [bR, Bool.and_eq_true, decide_eq_true_eq] at h
  obtain ⟨⟨⟨h1, h2⟩, h3⟩, h4, h5⟩ := h
  rcases List.mem_cons.1 he with rfl | he
  · exact ⟨h1, h2, h3⟩
  · exact ih _ h5 e he
theorem dF {a : Int} {l : List S63} (h : bH a l = true) : 0 ≤ a ∧ a ≤ 8 ∧ ∀ e ∈ l, 0 ≤ e.f0 ∧ e.f0 < e.f1 ∧ e.f1 < a := by
 simp only [bH, Bool.and_eq_true, decide_eq_true_eq] at h
 exact ⟨h.1.1, h.1.2, kz a l none h.2⟩
def aW (l : List S63) (x y : Int) : Bool := l.any fun e => (decide (e.f0 = x) && decide (e.f1 = y)) || (decide (e.f0 = y) && decide (e.f1 = x))
theorem qG (a : Int) (l : List S63) (x y : Int) (hl : l.length ≤ 1048576) (d : Nat) : ∀ (m : Nat), l.length - m = d → m ≤ l.length →
  Ev (fun k => dC k x y (m : Int) a l) (aW (l.drop m) x y) := by
 induction d with
 | zero =>
  intro m h0 h1
  refine Ev.step (fun k => by rw [dC]) ?_
  rw [List.drop_eq_nil_of_le (by omega)]
  exact Ev.neg (by omega) (Ev.now _)
 | succ d ih =>
  intro m h0 h1
  have hm : m < l.length := by omega
  refine Ev.step (fun k => by rw [dC]) ?_
  refine Ev.pos (by omega) (Ev.pos (by omega) ?_)
  have ihm := ih (m + 1) (by omega) (by omega)
  rw [← aJ hm (by omega)] at ihm
  rw [eE l m hm, List.drop_eq_getElem_cons hm]
  simp only [aW, List.any_cons] at ihm ⊢
  generalize (l.drop (m + 1)).any _ = R at ihm ⊢
  by_cases c1 : l[m].f0 = x
  · refine Ev.pos c1 ?_
    by_cases c2 : l[m].f1 = y
    · refine Ev.pos c2 ?_
      rw [af c1, af c2]
      exact Ev.now _
    · refine Ev.neg c2 ?_
      rw [ao c2, Bool.and_false, Bool.false_or]
      by_cases c3 : l[m].f0 = y
      · refine Ev.pos c3 ?_
        by_cases c4 : l[m].f1 = x
        · refine Ev.pos c4 ?_
          rw [af c3, af c4]
          exact Ev.now _
        · refine Ev.neg c4 ?_
          rw [ao c4, Bool.and_false, Bool.false_or]
          exact ihm
      · refine Ev.neg c3 ?_
        rw [ao c3, Bool.false_and, Bool.false_or]
        exact ihm
  · refine Ev.neg c1 ?_
    rw [ao c1, Bool.false_and, Bool.false_or]
    by_cases c3 : l[m].f0 = y
    · refine Ev.pos c3 ?_
      by_cases c4 : l[m].f1 = x
      · refine Ev.pos c4 ?_
        rw [af c3, af c4]
        exact Ev.now _
      · refine Ev.neg c4 ?_
        rw [ao c4, Bool.and_false, Bool.false_or]
        exact ihm
    · refine Ev.neg c3 ?_
      rw [ao c3, Bool.false_and, Bool.false_or]
      exact ihm
theorem jg (a : Int) (l : List S63) (x y : Int) (hl : l.length ≤ 1048576) : Ev (fun k => gj k a l x y) (aW l x y) :=
 qG a l x y hl l.length 0 (by omega) (Nat.zero_le _)
theorem rA (l : List S63) (p q : Int) (hl : l.length ≤ 1048576) (d : Nat) : ∀ (m : Nat), l.length - m = d → m ≤ l.length →
  ∃ i : Int, (decide (i ≥ 0)) = ((l.drop m).any fun e => p == e.f0 && q == e.f1) ∧ Ev (fun k => eC k l (l.length : Int) (m : Int) p q) i := by
 induction d with
 | zero =>
  intro m h0 h1
  refine ⟨-1, by rw [List.drop_eq_nil_of_le (by omega)]; rfl, Ev.step (fun k => by rw [eC]) ?_⟩
  exact Ev.neg (by omega) (Ev.now _)
 | succ d ih =>
  intro m h0 h1
  have hm : m < l.length := by omega
  obtain ⟨i, hi, ihm⟩ := ih (m + 1) (by omega) (by omega)
  rw [← aJ hm (by omega)] at ihm
  rw [List.drop_eq_getElem_cons hm, List.any_cons, ← hi]
  cases hc : (p == l[m].f0 && q == l[m].f1) with
  | true =>
   refine ⟨(m : Int), by simp, Ev.step (fun k => by rw [eC]) ?_⟩
   refine Ev.pos (by omega) (Ev.pos (by omega) (Ev.pos (by omega) ?_))
   rw [eE l m hm]
   exact Ev.pos hc (Ev.now _)
  | false =>
   refine ⟨i, by simp, Ev.step (fun k => by rw [eC]) ?_⟩
   refine Ev.pos (by omega) (Ev.pos (by omega) (Ev.pos (by omega) ?_))
   rw [eE l m hm]
   exact Ev.neg (by rw [hc]; decide) ihm
theorem fX {α : Type} (l : List α) (f g : α → Bool) (h : ∀ e ∈ l, f e = g e) : l.any f = l.any g := by
 induction l with
 | nil => rfl
 | cons x t ih => rw [List.any_cons, List.any_cons, h x (List.mem_cons_self ..), ih fun e he => h e (List.mem_cons_of_mem _ he)]
theorem nm (a : Int) (l : List S63) (x y : Int) (hl : l.length ≤ 1048576) (hu : ∀ e ∈ l, e.f0 < e.f1) : Ev (fun k => gR k a l x y) (aW l x y) := by
 unfold gR i3 iZ
 obtain ⟨i, hi, h⟩ := rA l (mn x y) (mx x y) hl l.length 0 (by omega) (Nat.zero_le _)
 refine Ev.bindo rfl ?_
 refine Ev.bind (Ev.bind h (Ev.now _)) ?_
 have : aW l x y = decide (i ≥ 0) := by
  rw [hi, List.drop_zero]
  unfold aW
  refine fX l _ _ fun e he => ?_
  have := hu e he
  unfold mn mx
  by_cases c : y < x
  · have c2 : ¬ x < y := by omega
    rw [if_pos c, if_neg c2]
    rw [Bool.eq_iff_iff]
    simp only [Bool.or_eq_true, Bool.and_eq_true, decide_eq_true_eq, beq_iff_eq]
    omega
  · rw [if_neg c]
    by_cases c2 : x < y
    · rw [if_pos c2, Bool.eq_iff_iff]
      simp only [Bool.or_eq_true, Bool.and_eq_true, decide_eq_true_eq, beq_iff_eq]
      omega
    · rw [if_neg c2, Bool.eq_iff_iff]
      simp only [Bool.or_eq_true, Bool.and_eq_true, decide_eq_true_eq, beq_iff_eq]
      omega
 rw [this]
 exact Ev.now _
def bE (lo hi : Int) : Option Int → List Int → Bool
 | _, [] => true
 | p, x :: t => (decide (lo ≤ x) && decide (x ≤ hi)) && ((match p with | none => true | some q => decide (q < x)) && bE lo hi (some x) t)
def cG (l : List Int) : Nat → Option Int
 | 0 => none
 | m + 1 => l[m]?
theorem lV (l : List Int) (lo hi : Int) (m : Nat) (hm : m < l.length) : bE lo hi (cG l m) (l.drop m) = ((decide (lo ≤ l[m]) && decide (l[m] ≤ hi)) && ((match cG l m with | none => true | some q => decide (q < l[m])) && bE lo hi (cG l (m + 1)) (l.drop (m + 1)))) := by
 rw [List.drop_eq_getElem_cons hm, show cG l (m + 1) = some l[m] from List.getElem?_eq_getElem hm]
 cases cG l m <;> rfl
theorem rm (l : List Int) (lo hi : Int) (hl : l.length ≤ 1048576) (d : Nat) : ∀ (m : Nat), l.length - m = d → m ≤ l.length →
  Ev (fun k => dP k l lo hi (m : Int)) (bE lo hi (cG l m) (l.drop m)) := by
 induction d with
 | zero =>
  intro m h0 h1
  refine Ev.step (fun k => by rw [dP]) ?_
  rw [List.drop_eq_nil_of_le (by omega)]
  refine Ev.neg (by omega) ?_
  cases cG l m <;> exact Ev.now _
 | succ d ih =>
  intro m h0 h1
  have hm : m < l.length := by omega
  refine Ev.step (fun k => by rw [dP]) ?_
  rw [lV l lo hi m hm]
  refine Ev.pos (by omega) (Ev.pos (by omega) ?_)
  rw [aM l m hm]
  have ihm := ih (m + 1) (by omega) (by omega)
  rw [← aJ hm (by omega)] at ihm
  generalize bE lo hi (cG l (m + 1)) (l.drop (m + 1)) = R at ihm ⊢
  refine Ev.bindo (jo _ _ _) ?_
  cases hc : (decide (lo ≤ l[m]) && decide (l[m] ≤ hi)) with
  | false => rw [Bool.false_and]; exact Ev.neg (by decide) (Ev.now _)
  | true =>
   rw [Bool.true_and]
   refine Ev.pos rfl ?_
   cases m with
   | zero =>
    refine Ev.neg (by omega) ?_
    simp only [cG, Bool.true_and]
    exact ihm
   | succ q =>
    have hq : q < l.length := by omega
    have hw : wrap64 (((q + 1 : Nat) : Int) - 1) = (q : Int) := by unfold wrap64; omega
    refine Ev.pos (by omega) ?_
    rw [hw]
    refine Ev.pos (by omega) (Ev.pos (by omega) ?_)
    rw [aM l q hq]
    simp only [cG, List.getElem?_eq_getElem hq]
    by_cases c : l[q] ≥ l[q + 1]
    · rw [ao (by omega : ¬ l[q] < l[q + 1]), Bool.false_and]
      exact Ev.pos c (Ev.now _)
    · rw [af (by omega : l[q] < l[q + 1]), Bool.true_and]
      exact Ev.neg c ihm
theorem rr (l : List Int) (n : Int) (hl : l.length ≤ 1048576) (d : Nat) : ∀ (m : Nat), l.length - m = d → m ≤ l.length →
  Ev (fun k => dY k l n l (l.length : Int) (m : Int)) (bE 0 (wrap64 (n - 1)) (cG l m) (l.drop m)) := by
 induction d with
 | zero =>
  intro m h0 h1
  refine Ev.step (fun k => by rw [dY]) ?_
  rw [List.drop_eq_nil_of_le (by omega)]
  refine Ev.neg (by omega) ?_
  cases cG l m <;> exact Ev.now _
 | succ d ih =>
  intro m h0 h1
  have hm : m < l.length := by omega
  refine Ev.step (fun k => by rw [dY]) ?_
  rw [lV l 0 (wrap64 (n - 1)) m hm]
  refine Ev.pos (by omega) (Ev.pos (by omega) (Ev.pos (by omega) ?_))
  rw [aM l m hm]
  have ihm := ih (m + 1) (by omega) (by omega)
  rw [← aJ hm (by omega)] at ihm
  generalize bE 0 (wrap64 (n - 1)) (cG l (m + 1)) (l.drop (m + 1)) = R at ihm ⊢
  refine Ev.bindo (jD _ _ _) ?_
  cases hc : (decide (0 ≤ l[m]) && decide (l[m] ≤ wrap64 (n - 1))) with
  | false => rw [Bool.false_and]; exact Ev.neg (by decide) (Ev.now _)
  | true =>
   rw [Bool.true_and]
   refine Ev.pos rfl ?_
   cases m with
   | zero =>
    refine Ev.neg (by omega) ?_
    simp only [cG, Bool.true_and]
    exact ihm
   | succ q =>
    have hq : q < l.length := by omega
    have hw : wrap64 (((q + 1 : Nat) : Int) - 1) = (q : Int) := by unfold wrap64; omega
    refine Ev.pos (by omega) ?_
    rw [hw]
    refine Ev.pos (by omega) (Ev.pos (by omega) ?_)
    rw [aM l q hq]
    simp only [cG, List.getElem?_eq_getElem hq]
    by_cases c : l[q + 1] ≤ l[q]
    · rw [ao (by omega : ¬ l[q] < l[q + 1]), Bool.false_and]
      exact Ev.pos c (Ev.now _)
    · rw [af (by omega : l[q] < l[q + 1]), Bool.true_and]
      exact Ev.neg c ihm
theorem pN (l : List Int) (n : Int) (hl : l.length ≤ 1048576) : Ev (fun k => jp k l n) (bE 0 (wrap64 (n - 1)) none l) :=
 rr l n hl l.length 0 (by omega) (Nat.zero_le _)
theorem rn (l : List Int) (lo hi : Int) (hl : l.length ≤ 1048576) : Ev (fun k => iY k l lo hi) (bE lo hi none l) :=
 rm l lo hi hl l.length 0 (by omega) (Nat.zero_le _)
theorem rj (a : Int) (e : List S63) (l : List Int) (hl : l.length ≤ 1048576) : Ev (fun k => hJ k a e l) (bE 0 (wrap64 (a - 1)) none l) := by
 unfold hJ
 exact Ev.bind (rn l _ _ hl) (Ev.now _)
theorem j8 (lo hi : Int) (l : List Int) : ∀ p, bE lo hi p l = true → ∀ x ∈ l, lo ≤ x ∧ x ≤ hi := by
 induction l with
 | nil => intro p h x hx; simp at hx
 | cons y t ih =>
  intro p h x hx
  simp only [bE, Bool.and_eq_true, decide_eq_true_eq] at h
  rcases List.mem_cons.1 hx with rfl | hx
  · exact h.1
  · exact ih _ h.2.2 x hx
theorem lW (lo hi : Int) (l : List Int) : ∀ p, bE lo hi p l = true → l.Pairwise (· < ·) ∧ ∀ q, p = some q → ∀ x ∈ l, q < x := by
 induction l with
 | nil => intro p _; exact ⟨.nil, fun _ _ x hx => by cases hx⟩
 | cons y t ih =>
  intro p h
  simp only [bE, Bool.and_eq_true, decide_eq_true_eq] at h
  obtain ⟨_, h2, h3⟩ := h
  obtain ⟨i1, i2⟩ := ih _ h3
  refine ⟨List.pairwise_cons.2 ⟨fun x hx => i2 y rfl x hx, i1⟩, fun q hq x hx => ?_⟩
  subst hq
  have h4 : q < y := by simpa using h2
  rcases List.mem_cons.1 hx with rfl | hx
  · exact h4
  · have := i2 y rfl x hx; omega
theorem pO (lo hi : Int) (l : List Int) : ∀ p, l.Pairwise (· < ·) → (∀ x ∈ l, lo ≤ x ∧ x ≤ hi) → (∀ q, p = some q → ∀ x ∈ l, q < x) → bE lo hi p l = true := by
 induction l with
 | nil => intro p _ _ _; cases p <;> rfl
 | cons y t ih =>
  intro p hp hb hq
  obtain ⟨h1, h2⟩ := List.pairwise_cons.1 hp
  have hy := hb y (.head _)
  have ih' := ih (some y) h2 (fun x hx => hb x (.tail _ hx)) (fun q e x hx => by injection e with e; subst e; exact h1 x hx)
  cases p with
  | none => simp only [bE, Bool.and_eq_true, decide_eq_true_eq, true_and]; exact ⟨hy, ih'⟩
  | some q => simp only [bE, Bool.and_eq_true, decide_eq_true_eq]; exact ⟨hy, hq q rfl y (.head _), ih'⟩
def aA (b y : Int) : Bool := Go.bits .and .u64 (dn .u64 b y) 1 == 1
def eO (b x : Int) : Int := Go.bits .or .u64 b (dp .u64 1 x)
theorem uw : ∀ b : Fin 256, ∀ x : Fin 8, (0 ≤ eO b x ∧ eO b x < 256) ∧ ∀ y : Fin 8, aA (eO b x) y = (aA b y || decide (y = x)) := by decide +kernel
theorem sp : ∀ y : Fin 8, aA 0 y = false := by decide +kernel
theorem d9 {n : Nat} {b : Int} (h : 0 ≤ b) (h2 : b < (n : Int)) : ∃ i : Fin n, b = ((i.val : Nat) : Int) := ⟨⟨b.toNat, by omega⟩, by show b = ((b.toNat : Nat) : Int); omega⟩
theorem ux {b x : Int} (hb : 0 ≤ b ∧ b < 256) (hx : 0 ≤ x ∧ x < 8) : (0 ≤ eO b x ∧ eO b x < 256) ∧ ∀ y, 0 ≤ y → y < 8 → aA (eO b x) y = (aA b y || decide (y = x)) := by
 obtain ⟨i, rfl⟩ := d9 (n := 256) hb.1 hb.2
 obtain ⟨j, rfl⟩ := d9 (n := 8) hx.1 hx.2
 have h := uw i j
 refine ⟨h.1, fun y h0 h8 => ?_⟩
 obtain ⟨q, rfl⟩ := d9 (n := 8) h0 h8
 rw [h.2 q]
 congr 1
 rw [decide_eq_decide]
 omega
theorem iC {y : Int} (h0 : 0 ≤ y) (h8 : y < 8) : aA 0 y = false := by
 obtain ⟨q, rfl⟩ := d9 (n := 8) h0 h8
 exact sp q
theorem ft {b y : Int} (h0 : 0 ≤ y) : bU b y = some (aA b y) := by
 unfold bU
 rw [if_pos h0]
 rfl
def aE (b : Int) (l : List Int) : Int := l.foldl eO b
theorem jF (l : List Int) : ∀ (b : Int), 0 ≤ b ∧ b < 256 → (∀ x ∈ l, 0 ≤ x ∧ x < 8) → (0 ≤ aE b l ∧ aE b l < 256) ∧ ∀ y, 0 ≤ y → y < 8 → aA (aE b l) y = (aA b y || decide (y ∈ l)) := by
 induction l with
 | nil => intro b hb _; exact ⟨hb, fun y _ _ => by simp [aE]⟩
 | cons x t ih =>
  intro b hb hx
  have h1 := ux hb (hx x (List.mem_cons_self ..))
  have h2 := ih (eO b x) h1.1 (fun z hz => hx z (List.mem_cons_of_mem _ hz))
  refine ⟨h2.1, fun y h0 h8 => ?_⟩
  have := h2.2 y h0 h8
  rw [show aE b (x :: t) = aE (eO b x) t from rfl, this, h1.2 y h0 h8, Bool.or_assoc]
  congr 1
  rw [Bool.eq_iff_iff]
  simp only [Bool.or_eq_true, decide_eq_true_eq, List.mem_cons]
theorem uk (l : List Int) (hl : l.length ≤ 1048576) (hx : ∀ x ∈ l, 0 ≤ x ∧ x < 8) (d : Nat) : ∀ (b : Int) (m : Nat), l.length - m = d → m ≤ l.length →
  Ev (fun k => eI k b l (l.length : Int) (m : Int)) (aE b (l.drop m)) := by
 induction d with
 | zero =>
  intro b m h0 h1
  refine Ev.step (fun k => by rw [eI]) (Ev.neg (by omega) ?_)
  rw [List.drop_eq_nil_of_le (by omega)]
  exact Ev.now _
 | succ d ih =>
  intro b m h0 h1
  have hm : m < l.length := by omega
  have := hx l[m] (List.getElem_mem hm)
  refine Ev.step (fun k => by rw [eI]) (Ev.pos (by omega) (Ev.pos (by omega) (Ev.pos (by omega) ?_)))
  rw [aM l m hm, List.drop_eq_getElem_cons hm, aJ hm (by omega)]
  exact Ev.pos this.1 (ih _ (m + 1) (by omega) (by omega))
theorem dh (l : List Int) (hl : l.length ≤ 1048576) (hx : ∀ x ∈ l, 0 ≤ x ∧ x < 8) : Ev (fun k => bV k l) (aE 0 l) :=
 uk l hl hx l.length 0 0 (by omega) (Nat.zero_le _)
theorem ro (l : List Int) (x : Int) (hl : l.length ≤ 1048576) (d : Nat) : ∀ (m : Nat), l.length - m = d → m ≤ l.length → Ev (fun k => fa k l x (m : Int)) (decide (x ∈ l.drop m)) := by
 induction d with
 | zero =>
  intro m h0 h1
  refine Ev.step (fun k => by rw [fa]) (Ev.neg (by omega) ?_)
  rw [List.drop_eq_nil_of_le (by omega), ao (by simp)]
  exact Ev.now _
 | succ d ih =>
  intro m h0 h1
  have hm : m < l.length := by omega
  refine Ev.step (fun k => by rw [fa]) (Ev.pos (by omega) (Ev.pos (by omega) ?_))
  rw [aM l m hm, List.drop_eq_getElem_cons hm, aJ hm (by omega)]
  by_cases c : l[m] = x
  · rw [af (by rw [c]; exact List.mem_cons_self ..)]
    exact Ev.pos c (Ev.now _)
  · have h := ih (m + 1) (by omega) (by omega)
    rw [show decide (x ∈ l[m] :: l.drop (m + 1)) = decide (x ∈ l.drop (m + 1)) from by
     rw [decide_eq_decide, List.mem_cons]
     exact ⟨fun h => h.resolve_left (fun h => c h.symm), .inr⟩]
    exact Ev.neg c h
theorem fl (l : List Int) (x : Int) (hl : l.length ≤ 1048576) : Ev (fun k => ew k l x) (decide (x ∈ l)) := by
 have := ro l x hl l.length 0 (by omega) (Nat.zero_le _)
 unfold ew
 simpa only [List.drop_zero, Int.natCast_zero] using this
def aI (f : Int → Bool) : Nat → Int → List Int
 | 0, _ => []
 | d + 1, y => (if f y = true then [y] else []) ++ aI f d (y + 1)
theorem pu (f : Int → Bool) (d : Nat) : ∀ y, (aI f d y).length ≤ d := by
 induction d with
 | zero => intro y; simp [aI]
 | succ d ih =>
  intro y
  have := ih (y + 1)
  simp only [aI, List.length_append]
  split <;> simp only [List.length_nil, List.length_cons] <;> omega
theorem pv (f g : Int → Bool) (d : Nat) : ∀ y, (∀ z, y ≤ z → z < y + (d : Int) → f z = g z) → aI f d y = aI g d y := by
 induction d with
 | zero => intro y _; rfl
 | succ d ih =>
  intro y h
  simp only [aI]
  rw [h y (by omega) (by omega), ih (y + 1) (fun z h1 h2 => h z (by omega) (by omega))]
theorem pr (f : Int → Bool) (d : Nat) : ∀ y, (∀ z, y ≤ z → z < y + (d : Int) → f z = false) → aI f d y = [] := by
 induction d with
 | zero => intro y _; rfl
 | succ d ih =>
  intro y h
  simp only [aI]
  rw [h y (by omega) (by omega), ih (y + 1) (fun z h1 h2 => h z (by omega) (by omega))]
  rfl
theorem lO (f : Int → Bool) (d e : Nat) : ∀ y, aI f (d + e) y = aI f d y ++ aI f e (y + (d : Int)) := by
 induction d with
 | zero => intro y; simp [aI]
 | succ d ih =>
  intro y
  rw [show d + 1 + e = (d + e) + 1 by omega]
  simp only [aI]
  rw [ih (y + 1), List.append_assoc, show y + 1 + (d : Int) = y + ((d + 1 : Nat) : Int) by omega]
theorem cD (f : Int → Bool) (d : Nat) : ∀ y z, z ∈ aI f d y ↔ (y ≤ z ∧ z < y + (d : Int)) ∧ f z = true := by
 induction d with
 | zero => intro y z; simp only [aI, List.not_mem_nil, false_iff]; omega
 | succ d ih =>
  intro y z
  simp only [aI, List.mem_append, ih]
  by_cases c : f y = true
  · rw [if_pos c, List.mem_singleton]
    constructor
    · rintro (rfl | h)
      · exact ⟨by omega, c⟩
      · exact ⟨by omega, h.2⟩
    · rintro ⟨h, hf⟩
      by_cases hz : z = y
      · exact .inl hz
      · exact .inr ⟨by omega, hf⟩
  · rw [if_neg c]
    constructor
    · rintro (h | h)
      · simp at h
      · exact ⟨by omega, h.2⟩
    · rintro ⟨h, hf⟩
      by_cases hz : z = y
      · subst hz; exact absurd hf c
      · exact .inr ⟨by omega, hf⟩
def us (n : Int) : Int := IntKind.u64.wrap ((dp .u64 1 n) - 1)
def cw (b c : Int) : Int := Go.bits .andNot .u64 b c
theorem ui (b : Int) (d : Nat) : ∀ (y : Int) (acc : List Int), (8 - y).toNat = d → 0 ≤ y → acc.length + d ≤ 1000 → Ev (fun k => df k b acc y) (acc ++ aI (aA b) d y) := by
 induction d with
 | zero =>
  intro y acc h0 h1 h2
  refine Ev.step (fun k => by rw [df]) (Ev.neg (by omega) ?_)
  simp only [aI, List.append_nil]
  exact Ev.now _
 | succ d ih =>
  intro y acc h0 h1 h2
  refine Ev.step (fun k => by rw [df]) (Ev.pos (by omega) (Ev.pos (by omega) ?_))
  have hw : wrap64 (y + 1) = y + 1 := cL (by omega) (by omega)
  rw [hw, aI]
  by_cases c : aA b y = true
  · rw [if_pos c, ← List.append_assoc]
    refine Ev.pos (by simpa only [aA, beq_iff_eq] using c) (Ev.pos (by omega) ?_)
    exact ih (y + 1) _ (by omega) (by omega) (by rw [List.length_append, List.length_singleton]; omega)
  · rw [if_neg c, List.nil_append]
    exact Ev.neg (by simpa only [aA, beq_iff_eq] using c) (ih (y + 1) acc (by omega) (by omega) (by omega))
theorem iL (b : Int) : Ev (fun k => eH k b) (aI (aA b) 8 0) := by
 unfold eH
 have := ui b 8 0 [] (by omega) (by omega) (by simp)
 simpa only [List.nil_append] using this
end Go.Proofs.YtjgcehldepfaaaaGreat.P
