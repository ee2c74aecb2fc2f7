/- Both sides' test of a list of edges, and of a graph, say what goodP and okG say in plain words. -/
import Derived.Test.YtfkcddambaadjaaDoorParseGraphG6
import Derived.Test.YtfkcddambaadjaaDoorParseGraphG7
import Derived.Test.YtfkcddambaadjaaDoorParseGraphG5
import Derived.Test.YtfkcddambaadjaaDoorParseGraphG4
import Derived.Test.YtfkcddambaadjaaDoorParseGraphG3
import Derived.ProofKit
import Derived.OpenShut
import Derived.Deep.Matrix
import Derived.Lib.SmallJoins
import Derived.Lib.AtoiAllCases
namespace Go.Proofs.YtfkcddambaadjaaDoor.P
open Go.RowKit Go.Proofs.YtfkcddambaadjaaDoorW.PrintWords Go.Proofs.YtfkcddambaadjaaDoorW.PrintLast Go.Proofs.YtfkcddambaadjaaDoorW.PrintMore
set_option linter.unusedVariables false
set_option linter.unusedSimpArgs false

theorem in_at (a lo hi : Int) : spec_l1In.f a lo hi = some (decide (lo ≤ a) && decide (a ≤ hi)) := by
  unfold spec_l1In.f
  by_cases h : lo ≤ a
  · rw [if_pos h, decide_eq_true h, Bool.true_and]
  · rw [if_neg h, decide_eq_false h, Bool.false_and]
theorem between_at (a lo hi : Int) : impl_between.f a lo hi = some (decide (lo ≤ a) && decide (a ≤ hi)) := by
  unfold impl_between.f
  by_cases h : lo ≤ a
  · rw [if_pos h, decide_eq_true h, Bool.true_and]
  · rw [if_neg h, decide_eq_false h, Bool.false_and]
/-- A pair comes before another one. -/
def befP (a b : S41) : Bool := decide (a.f0 < b.f0) || (decide (a.f0 = b.f0) && decide (a.f1 < b.f1))
theorem edge_at (a b : S41) : spec_l2Edge.f a.f0 a.f1 b.f0 b.f1 = some (befP a b) := by
  unfold spec_l2Edge.f befP
  by_cases h : a.f0 < b.f0
  · rw [if_pos h, decide_eq_true h, Bool.true_or]
  · rw [if_neg h, decide_eq_false h, Bool.false_or]
    by_cases h2 : a.f0 = b.f0
    · rw [if_pos h2, decide_eq_true h2, Bool.true_and]
    · rw [if_neg h2, decide_eq_false h2, Bool.false_and]
theorem cmpP_bef (a b : S41) : (cmpP a b < 0) ↔ befP a b = true := by
  unfold cmpP befP cmpI
  simp only [Bool.or_eq_true, Bool.and_eq_true, decide_eq_true_eq]
  by_cases h : a.f0 < b.f0
  · simp [h]
  · by_cases h2 : b.f0 < a.f0
    · have : ¬ a.f0 = b.f0 := by omega
      simp [h, h2, this]
    · have h3 : a.f0 = b.f0 := by omega
      by_cases h4 : a.f1 < b.f1
      · simp [h3, h4]
      · by_cases h5 : b.f1 < a.f1 <;> simp [h3, h4, h5]
/-- Pairs of numbers from 0 on below n, the less one first, strictly ascending behind a first one. -/
def goodP (n : Int) : Option S41 → List S41 → Bool
  | _, [] => true
  | p, e :: t => (decide (0 ≤ e.f0) && decide (e.f0 < e.f1) && decide (e.f1 < n)) && ((match p with | none => true | some q => befP q e) && goodP n (some e) t)
def prevP (l : List S41) : Nat → Option S41
  | 0 => none
  | m + 1 => l[m]?
theorem goodP_step (l : List S41) (n : Int) (m : Nat) (hm : m < l.length) : goodP n (prevP l m) (l.drop m) = ((decide (0 ≤ l[m].f0) && decide (l[m].f0 < l[m].f1) && decide (l[m].f1 < n)) && ((match prevP l m with | none => true | some q => befP q l[m]) && goodP n (prevP l (m + 1)) (l.drop (m + 1)))) := by
  rw [List.drop_eq_getElem_cons hm, show prevP l (m + 1) = some l[m] from List.getElem?_eq_getElem hm]
  cases prevP l m <;> rfl
theorem l2Pairs_loop (l : List S41) (n : Int) (hn : 0 ≤ n) (hn2 : n ≤ 4611686018427387904) (hl : l.length ≤ 1048576) (d : Nat) : ∀ (m : Nat), l.length - m = d → m ≤ l.length →
    Ev (fun k => spec_l2Pairs.l0 k l n (m : Int)) (goodP n (prevP l m) (l.drop m)) := by
  induction d with
  | zero =>
    intro m h0 h1
    refine Ev.step (fun k => by rw [spec_l2Pairs.l0]) ?_
    have e3 : l.drop m = [] := List.drop_eq_nil_of_le (by omega)
    rw [e3]
    refine Ev.neg (by omega) ?_
    cases prevP l m <;> exact Ev.now _
  | succ d ih =>
    intro m h0 h1
    have hm : m < l.length := by omega
    refine Ev.step (fun k => by rw [spec_l2Pairs.l0]) ?_
    rw [goodP_step l n m hm]
    refine Ev.pos (by omega) (Ev.pos (by omega) ?_)
    rw [rdT_at l m hm, wrap_nat (m := n - 1) (by omega) (by omega)]
    have ihm := ih (m + 1) (by omega) (by omega)
    rw [← wrap_up hm (by omega)] at ihm
    generalize goodP n (prevP l (m + 1)) (l.drop (m + 1)) = R at ihm ⊢
    refine Ev.bindo (in_at _ _ _) ?_
    by_cases c1 : 0 ≤ l[m].f0
    · by_cases c2 : l[m].f0 ≤ n - 1
      · refine Ev.pos (by simp [c1, c2]) (Ev.bindo (in_at _ _ _) ?_)
        by_cases c3 : 0 ≤ l[m].f1 ∧ l[m].f1 ≤ n - 1
        · refine Ev.pos (by simp [c3.1, c3.2]) ?_
          by_cases c4 : l[m].f0 ≥ l[m].f1
          · have : (decide (0 ≤ l[m].f0) && decide (l[m].f0 < l[m].f1) && decide (l[m].f1 < n)) = false := by simp; omega
            rw [this, Bool.false_and]
            exact Ev.pos c4 (Ev.now _)
          · have : (decide (0 ≤ l[m].f0) && decide (l[m].f0 < l[m].f1) && decide (l[m].f1 < n)) = true := by simp; omega
            rw [this, Bool.true_and]
            refine Ev.neg c4 ?_
            cases m with
            | zero =>
              refine Ev.neg (by omega) ?_
              simp only [prevP, Bool.true_and]
              exact ihm
            | succ q =>
              have hq : q < l.length := by omega
              have hw : wrap64 (((q + 1 : Nat) : Int) - 1) = (q : Int) := by unfold wrap64; omega
              refine Ev.pos (by omega) ?_
              rw [hw]
              refine Ev.pos (by omega) (Ev.pos (by omega) ?_)
              rw [rdT_at l q hq]
              refine Ev.bindo (edge_at _ _) ?_
              simp only [prevP, List.getElem?_eq_getElem hq]
              cases befP l[q] l[q + 1] with
              | true => rw [Bool.true_and]; exact Ev.pos rfl ihm
              | false => rw [Bool.false_and]; exact Ev.neg (by decide) (Ev.now _)
        · have : (decide (0 ≤ l[m].f0) && decide (l[m].f0 < l[m].f1) && decide (l[m].f1 < n)) = false := by simp; omega
          rw [this, Bool.false_and]
          exact Ev.neg (by simp; omega) (Ev.now _)
      · have : (decide (0 ≤ l[m].f0) && decide (l[m].f0 < l[m].f1) && decide (l[m].f1 < n)) = false := by simp; omega
        rw [this, Bool.false_and]
        exact Ev.neg (by simp; omega) (Ev.now _)
    · have : (decide (0 ≤ l[m].f0) && decide (l[m].f0 < l[m].f1) && decide (l[m].f1 < n)) = false := by simp; omega
      rw [this, Bool.false_and]
      exact Ev.neg (by simp; omega) (Ev.now _)
theorem isPairs_loop (l : List S41) (n : Int) (hl : l.length ≤ 1048576) (d : Nat) : ∀ (m : Nat), l.length - m = d → m ≤ l.length →
    Ev (fun k => impl_isPairs.l0 k l n l (l.length : Int) (m : Int)) (goodP n (prevP l m) (l.drop m)) := by
  induction d with
  | zero =>
    intro m h0 h1
    refine Ev.step (fun k => by rw [impl_isPairs.l0]) ?_
    have e3 : l.drop m = [] := List.drop_eq_nil_of_le (by omega)
    rw [e3]
    refine Ev.neg (by omega) ?_
    cases prevP l m <;> exact Ev.now _
  | succ d ih =>
    intro m h0 h1
    have hm : m < l.length := by omega
    refine Ev.step (fun k => by rw [impl_isPairs.l0]) ?_
    rw [goodP_step l n m hm]
    refine Ev.pos (by omega) (Ev.pos (by omega) (Ev.pos (by omega) ?_))
    rw [rdT_at l m hm]
    have ihm := ih (m + 1) (by omega) (by omega)
    rw [← wrap_up hm (by omega)] at ihm
    generalize goodP n (prevP l (m + 1)) (l.drop (m + 1)) = R at ihm ⊢
    by_cases c1 : l[m].f0 < 0
    · have : (decide (0 ≤ l[m].f0) && decide (l[m].f0 < l[m].f1) && decide (l[m].f1 < n)) = false := by simp; omega
      rw [this, Bool.false_and]
      exact Ev.pos c1 (Ev.now _)
    · refine Ev.neg c1 ?_
      by_cases c2 : l[m].f0 ≥ l[m].f1
      · have : (decide (0 ≤ l[m].f0) && decide (l[m].f0 < l[m].f1) && decide (l[m].f1 < n)) = false := by simp; omega
        rw [this, Bool.false_and]
        exact Ev.pos c2 (Ev.now _)
      · refine Ev.neg c2 ?_
        by_cases c3 : l[m].f1 ≥ n
        · have : (decide (0 ≤ l[m].f0) && decide (l[m].f0 < l[m].f1) && decide (l[m].f1 < n)) = false := by simp; omega
          rw [this, Bool.false_and]
          exact Ev.pos c3 (Ev.now _)
        · have : (decide (0 ≤ l[m].f0) && decide (l[m].f0 < l[m].f1) && decide (l[m].f1 < n)) = true := by simp; omega
          rw [this, Bool.true_and]
          refine Ev.neg c3 ?_
          cases m with
          | zero =>
            refine Ev.neg (by omega) ?_
            simp only [prevP, Bool.true_and]
            exact ihm
          | succ q =>
            have hq : q < l.length := by omega
            have hw : wrap64 (((q + 1 : Nat) : Int) - 1) = (q : Int) := by unfold wrap64; omega
            refine Ev.pos (by omega) ?_
            rw [hw]
            refine Ev.pos (by omega) (Ev.pos (by omega) ?_)
            rw [rdT_at l q hq]
            refine Ev.bind (a := cmpP l[q] l[q + 1]) ⟨3, fun k hk => comparePairs_at _ _ k hk⟩ ?_
            simp only [prevP, List.getElem?_eq_getElem hq]
            have hb := cmpP_bef l[q] l[q + 1]
            cases hbb : befP l[q] l[q + 1] with
            | true => rw [Bool.true_and]; exact Ev.neg (by have := hb.2 hbb; omega) ihm
            | false => rw [Bool.false_and]; exact Ev.pos (by rw [hbb] at hb; have : ¬ cmpP l[q] l[q+1] < 0 := fun h => by have := hb.1 h; cases this
                                                             omega) (Ev.now _)
theorem l2Pairs_ev (l : List S41) (n : Int) (hn : 0 ≤ n) (hn2 : n ≤ 4611686018427387904) (hl : l.length ≤ 1048576) : Ev (fun k => spec_l2Pairs.f k l n) (goodP n none l) :=
  l2Pairs_loop l n hn hn2 hl l.length 0 (by omega) (Nat.zero_le _)
theorem isPairs_ev (l : List S41) (n : Int) (hl : l.length ≤ 1048576) : Ev (fun k => impl_isPairs.f k l n) (goodP n none l) :=
  isPairs_loop l n hl l.length 0 (by omega) (Nat.zero_le _)
/-- A valid graph. -/
def okG (a : Int) (l : List S41) : Bool := (decide (0 ≤ a) && decide (a ≤ 8)) && goodP a none l
theorem l2Good_ev (a : Int) (l : List S41) (hl : l.length ≤ 1048576) : Ev (fun k => spec_l2Good.f k a l) (okG a l) := by
  unfold spec_l2Good.f okG
  refine Ev.bindo (in_at _ _ _) ?_
  by_cases h : (decide (0 ≤ a) && decide (a ≤ 8)) = true
  · rw [h, Bool.true_and]
    simp at h
    exact Ev.pos rfl (Ev.bind (l2Pairs_ev l a h.1 (by omega) hl) (Ev.now _))
  · have h2 : (decide (0 ≤ a) && decide (a ≤ 8)) = false := by simpa using h
    rw [h2, Bool.false_and]
    exact Ev.neg (by decide) (Ev.now _)
theorem impl_IsGraph_ev (a : Int) (l : List S41) (hl : l.length ≤ 1048576) : Ev (fun k => impl_IsGraph.f k a l) (okG a l) := by
  unfold impl_IsGraph.f okG
  refine Ev.bindo (between_at _ _ _) ?_
  by_cases h : (decide (0 ≤ a) && decide (a ≤ 8)) = true
  · rw [h, Bool.true_and]
    exact Ev.pos rfl (Ev.bind (isPairs_ev l a hl) (Ev.now _))
  · have h2 : (decide (0 ≤ a) && decide (a ≤ 8)) = false := by simpa using h
    rw [h2, Bool.false_and]
    exact Ev.neg (by decide) (Ev.now _)
end Go.Proofs.YtfkcddambaadjaaDoor.P
namespace Go.Proofs.YtfkcddambaadjaaDoor.P
open Go.RowKit Go.Proofs.YtfkcddambaadjaaDoorW.PrintWords Go.Proofs.YtfkcddambaadjaaDoorW.PrintLast Go.Proofs.YtfkcddambaadjaaDoorW.PrintMore
set_option linter.unusedVariables false
set_option linter.unusedSimpArgs false
/-- A text with an edge behind it. -/
def edgeB (acc : ByteArray) (e : S41) : ByteArray := (((acc ++ (⟨#[32]⟩ : ByteArray)) ++ str (Lib.itoa e.f0)) ++ (⟨#[45]⟩ : ByteArray)) ++ str (Lib.itoa e.f1)
def textB (a : Int) (l : List S41) : ByteArray := l.foldl edgeB (str (Lib.itoa a))
theorem edgeB_size (acc : ByteArray) (e : S41) : (edgeB acc e).size = acc.size + 1 + (Lib.itoa e.f0).length + 1 + (Lib.itoa e.f1).length := by
  simp only [edgeB, ByteArray.size_append, str_size, show (⟨#[32]⟩ : ByteArray).size = 1 from rfl, show (⟨#[45]⟩ : ByteArray).size = 1 from rfl]
def smallE (e : S41) : Prop := (-9223372036854775807 < e.f0 ∧ e.f0 < 9223372036854775807) ∧ (-9223372036854775807 < e.f1 ∧ e.f1 < 9223372036854775807)
theorem text_loop (a : Int) (l : List S41) (hl : l.length ≤ 1048576) (hs : ∀ e ∈ l, smallE e) (d : Nat) : ∀ (m : Nat) (acc : ByteArray), l.length - m = d → m ≤ l.length → acc.size ≤ 44 * m + 44 →
    Ev (fun k => spec_l2Text.l0 k acc (m : Int) a l) ((l.drop m).foldl edgeB acc) := by
  induction d with
  | zero =>
    intro m acc h1 h2 h3
    rw [List.drop_eq_nil_of_le (by omega), List.foldl_nil]
    exact Ev.step (fun k => by rw [spec_l2Text.l0]) (Ev.neg (by omega) (Ev.now _))
  | succ d ih =>
    intro m acc h1 h2 h3
    have hm : m < l.length := by omega
    obtain ⟨⟨x1, x2⟩, x3, x4⟩ := hs l[m] (List.getElem_mem hm)
    have l1 := Lib.itoa_length_le l[m].f0 (by omega) (by omega)
    have l2 := Lib.itoa_length_le l[m].f1 (by omega) (by omega)
    rw [List.drop_eq_getElem_cons hm, List.foldl_cons]
    refine Ev.step (fun k => by rw [spec_l2Text.l0]) (Ev.pos (by omega) (Ev.pos (by omega) (Ev.pos (by omega) ?_)))
    rw [rdT_at l m hm]
    refine Ev.bind (num_any l[m].f0 x1 x2) ?_
    refine Ev.pos (by simp only [ByteArray.size_append, str_size, show (⟨#[32]⟩ : ByteArray).size = 1 from rfl]; omega) ?_
    refine Ev.pos (by simp only [ByteArray.size_append, str_size, show (⟨#[32]⟩ : ByteArray).size = 1 from rfl]; omega) ?_
    refine Ev.bind (num_any l[m].f1 x3 x4) ?_
    refine Ev.pos (by simp only [ByteArray.size_append, str_size, show (⟨#[32]⟩ : ByteArray).size = 1 from rfl, show (⟨#[45]⟩ : ByteArray).size = 1 from rfl]; omega) ?_
    rw [wrap_up (m := m) (n := l.length) (by omega) (by omega)]
    exact ih (m + 1) (edgeB acc l[m]) (by omega) (by omega) (by rw [edgeB_size]; omega)
theorem l2Text_ev (a : Int) (l : List S41) (hl : l.length ≤ 1048576) (ha : -9223372036854775807 < a ∧ a < 9223372036854775807) (hs : ∀ e ∈ l, smallE e) : Ev (fun k => spec_l2Text.f k a l) (textB a l) := by
  unfold spec_l2Text.f
  refine Ev.bind (num_any a ha.1 ha.2) ?_
  have l1 := Lib.itoa_length_le a (by omega) (by omega)
  have := text_loop a l hl hs _ 0 (str (Lib.itoa a)) rfl (Nat.zero_le _) (by rw [str_size]; omega)
  rw [List.drop_zero] at this
  exact this
def graR (a : Int) (l : List S41) : ByteArray × Bool := if okG a l = true then (textB a l, true) else (⟨#[]⟩, false)
end Go.Proofs.YtfkcddambaadjaaDoor.P
namespace Go.Proofs.YtfkcddambaadjaaDoor.P
open Go.RowKit Go.Proofs.YtfkcddambaadjaaDoorW.PrintWords Go.Proofs.YtfkcddambaadjaaDoorW.PrintLast Go.Proofs.YtfkcddambaadjaaDoorW.PrintMore
def strconv_Itoa.f (a0 : Int) : Option ByteArray := if -9223372036854775808 ≤ a0 ∧ a0 ≤ 9223372036854775807 then some (str (Lib.itoa a0)) else none
theorem strconv_Itoa.calls (a0 : Int) (r : ByteArray) (w : World) (hp : Pow w) (h : strconv_Itoa.f a0 = some r) :
    Calls Tryd.prog 19 #[.int .i64 a0] w fun e w' => e = .returned (.string r) ∧ Below w.heap.size w w' := by
  unfold strconv_Itoa.f at h
  by_cases c : -9223372036854775808 ≤ a0 ∧ a0 ≤ 9223372036854775807
  · rw [if_pos c] at h
    obtain rfl := Option.some.inj h
    exact itoa_calls a0 c.1 c.2 w hp
  · rw [if_neg c] at h; cases h
end Go.Proofs.YtfkcddambaadjaaDoor.P
namespace Go.Proofs.YtfkcddambaadjaaDoor.P
open Go.RowKit Go.Proofs.YtfkcddambaadjaaDoorW.PrintWords Go.Proofs.YtfkcddambaadjaaDoorW.PrintLast Go.Proofs.YtfkcddambaadjaaDoorW.PrintMore
attribute [local go_sem] max2_int min2_int max_two min_two max_three min_three max_four min_four   -- for this text's walks alone
set_option linter.unusedVariables false
set_option linter.unusedSimpArgs false

/-! ### impl_GraphText: function 8 -/
def impl_GraphText.l0 : Nat → ByteArray → List (S41) → Int → Int → Option (ByteArray × Bool)
 | 0, _, _, _, _ => none
 | k + 1, x4, x14, x15, x16 => if x16 < x15 then (if 0 ≤ x16 then (if x16 < (x14.length : Int) then ((strconv_Itoa.f ((rd_T41 x14 x16).f0)).bind fun t172 => (if 1 + t172.size ≤ 9223372036854775807 then (if ((⟨#[32]⟩ : ByteArray) ++ t172).size + 1 ≤ 9223372036854775807 then ((strconv_Itoa.f ((rd_T41 x14 x16).f1)).bind fun t173 => (if (((⟨#[32]⟩ : ByteArray) ++ t172) ++ (⟨#[45]⟩ : ByteArray)).size + t173.size ≤ 9223372036854775807 then (if x4.size + ((((⟨#[32]⟩ : ByteArray) ++ t172) ++ (⟨#[45]⟩ : ByteArray)) ++ t173).size ≤ 9223372036854775807 then (impl_GraphText.l0 k (x4 ++ ((((⟨#[32]⟩ : ByteArray) ++ t172) ++ (⟨#[45]⟩ : ByteArray)) ++ t173)) x14 x15 (wrap64 (x16 + 1))) else (none)) else (none))) else (none)) else (none))) else (none)) else (none)) else (some (x4, true))
def impl_GraphText.f (k : Nat) (a0_0 : Int) (l0_1 : List (S41)) : Option (ByteArray × Bool) := (impl_IsGraph.f k a0_0 l0_1).bind fun t168 => (if t168 = true then ((strconv_Itoa.f a0_0).bind fun t169 => (impl_GraphText.l0 k t169 l0_1 (l0_1.length : Int) 0)) else (some ((⟨#[]⟩ : ByteArray), false)))
def impl_GraphText.T7 : Bool × List (List Nat × List Nat) := (true, [([], []), ([], []), ([1], [1]), ([2], [2]), ([3], [3]), ([4], [4]), ([], []), ([6], [6]), ([7, 3], [7]), ([5, 8], [5, 8]), ([0, 9], [0, 9]), ([10, 8, 0, 1, 2, 3, 4, 5, 6, 7, 8, 9, 10], [0, 10])])
def impl_GraphText.B7 : List Nat := [0, 0, 2, 6, 14, 30, 0, 64, 206, 510, 1023, 2047]
theorem impl_GraphText.tab7 : rtab .any (opsOf Tryd.f8 7) = impl_GraphText.T7 := by kernel_rfl
theorem impl_GraphText.bits7 : waitsOk impl_GraphText.T7.2 impl_GraphText.B7 = true := by kernel_rfl
set_option maxHeartbeats 8000000 in
set_option maxRecDepth 100000 in
theorem impl_GraphText.calls (k : Nat) (a0_0 : Int) (A0_1 : Option Addr) (c0_1 : Nat) (l0_1 : List (S41)) (r1 : ByteArray) (r2 : Bool) (w : World) (hpow : ∀ w_ : World, Below w.heap.size w w_ → Pow w_) (hr0_1 : Kd.C k41 w A0_1 l0_1.length l0_1) (hc0_1 : l0_1.length ≤ c0_1) (h : impl_GraphText.f k a0_0 l0_1 = some (r1, r2)) :
 Calls Tryd.prog 8 #[.agg #[.int .i64 a0_0, .slice A0_1 l0_1.length c0_1]] w fun e w' => e = .returned (.tuple #[.string r1, .bool r2]) ∧ Below w.heap.size w w' := by
 have HPow := zM hpow
 clear hpow
 have hu28 := Tryd.underlying28
 have hu41 := Tryd.underlying41
 have HR0_1 := Aside0.mk hr0_1
 have HC0_1 := Aside0.mk hc0_1
 clear hr0_1 hc0_1
 have HB := zM (Below.refl w.heap.size w)
 have H : ((impl_IsGraph.f k a0_0 l0_1).bind fun t168 => (if t168 = true then ((strconv_Itoa.f a0_0).bind fun t169 => (impl_GraphText.l0 k t169 l0_1 (l0_1.length : Int) 0)) else (some ((⟨#[]⟩ : ByteArray), false)))) = some (r1, r2) := h
 clear h
 replace H := Option.bind_eq_some_iff.mp H
 obtain ⟨t168, A20, H⟩ := H
 replace H : (if t168 = true then ((strconv_Itoa.f a0_0).bind fun t169 => (impl_GraphText.l0 k t169 l0_1 (l0_1.length : Int) 0)) else (some ((⟨#[]⟩ : ByteArray), false))) = some (r1, r2) := H
 have A2 := Aside0.mk A20
 clear A20
 by_cases c3 : t168 = true
 · subst c3
   have H1 : ((strconv_Itoa.f a0_0).bind fun t169 => (impl_GraphText.l0 k t169 l0_1 (l0_1.length : Int) 0)) = some (r1, r2) := by rw [if_pos rfl] at H; exact H
   clear H
   have H := H1
   clear H1
   replace H := Option.bind_eq_some_iff.mp H
   obtain ⟨t169, A40, H⟩ := H
   replace H : (impl_GraphText.l0 k t169 l0_1 (l0_1.length : Int) 0) = some (r1, r2) := H
   have A4 := Aside0.mk A40
   clear A40
   have H' := Aside0.mk H
   clear H
   go_enter Tryd.func8, Tryd.ntmps8
   go_wp2_with (first | ((with_reducible refine gate_dst (N := 1) rfl ?_); refine zb (w := w) 1 #[.int .i64 a0_0, .slice A0_1 l0_1.length c0_1] 28 zB ?_; clear HB; intro gb167 w5 HB BK167 GW167; have GE167 := GW167; have hcz6_0 := zy BK167 0; have hcz6_1 := zy BK167 1; have hfz6_0 := blk_frozen BK167.out 0; have hfz6_1 := blk_frozen BK167.out 1) | ((with_reducible refine gate_callee (f := 18) rfl ?_); refine zc 8 Tryd.func18 #[.agg #[.int .i64 a0_0, .slice A0_1 l0_1.length c0_1]] ?_; (with_reducible refine (impl_IsGraph.calls k a0_0 _ _ l0_1 true _ ?side1 ?side2 A2.out).mono ?_); (case side1 => exact zC (Kd.C_below HR0_1.out HB.out)); (case side2 => exact HC0_1.out); rintro e w7 ⟨rfl, hb⟩; refine ⟨_, rfl, ?_⟩; replace BK167 := zM (blk_below (g := gb167) (o := .cells #[.int .i64 a0_0, .slice A0_1 l0_1.length c0_1] 28 (0, 0)) (zK BK167.out) hb); replace HB := zM (below_step zB hb); (try clear hb); (try clear hb2); (try clear hk); (try clear hi); have hcz8_0 := zy BK167 0; have hcz8_1 := zy BK167 1; have hfz8_0 := blk_frozen BK167.out 0; have hfz8_1 := blk_frozen BK167.out 1) | ((with_reducible refine gate_callee (f := 19) rfl ?_); refine zc 12 Tryd.func19 #[.int .i64 a0_0] ?_; (with_reducible refine (strconv_Itoa.calls a0_0 t169 _ (HPow.out _ zB) A4.out).mono ?_); rintro e w9 ⟨rfl, hb⟩; refine ⟨_, rfl, ?_⟩; replace BK167 := zM (blk_below (g := gb167) (o := .cells #[.int .i64 a0_0, .slice A0_1 l0_1.length c0_1] 28 (0, 0)) (zK BK167.out) hb); replace HB := zM (below_step zB hb); (try clear hb); (try clear hb2); (try clear hk); (try clear hi); have hcz10_0 := zy BK167 0; have hcz10_1 := zy BK167 1; have hfz10_0 := blk_frozen BK167.out 0; have hfz10_1 := blk_frozen BK167.out 1))
   go_loopg [4, 16] k (fun kq v4 v16 w' => ∃ (x4_1 : ByteArray) (x16_1 : Int), v4 = .string x4_1 ∧ v16 = .int .i64 x16_1 ∧ Aside0 (impl_GraphText.l0 kq x4_1 l0_1 (l0_1.length : Int) x16_1 = some (r1, r2)) ∧ Aside0 (kq ≤ k) ∧ Aside0 (w'.heap[gb167]? = some (.cells #[.int .i64 a0_0, (.slice A0_1 l0_1.length c0_1)] 28 (0, 0))) ∧ Aside0 (Below w.heap.size w w'))
   case atStart => exact ⟨(t169), (0), (by first | rfl | (simp; done) | (simp [*]; done)), (by first | rfl | (simp; done) | (simp [*]; done)), H', ⟨Nat.le_refl _⟩, ⟨zK BK167.out⟩, ⟨zB⟩⟩
   case round =>
    clear H'
    try clear c1
    try clear p2
    try clear c3
    try clear c8
    try clear hcz10_0
    try clear hcz10_1
    try clear hcz6_0
    try clear hcz6_1
    try clear hcz8_0
    try clear hcz8_1
    try clear hfz10_0
    try clear hfz10_1
    try clear hfz6_0
    try clear hfz6_1
    try clear hfz8_0
    try clear hfz8_1
    obtain ⟨x4_1, x16_1, rfl, rfl, HA, HK1, BK167, HB⟩ := hrel
    cases gk with
    | zero => exact absurd HA.out (by simp [impl_GraphText.l0])
    | succ k1 =>
     have H := HA.out
     clear HA
     simp only [impl_GraphText.l0] at H
     by_cases c11 : x16_1 < (l0_1.length : Int)
     · rw [if_pos c11] at H
       have c11b0 := decide_eq_true c11
       clear c11
       by_cases c12 : 0 ≤ x16_1
       · rw [if_pos c12] at H
         have c12b0 := decide_eq_true c12
         clear c12
         by_cases c13 : x16_1 < (l0_1.length : Int)
         · rw [if_pos c13] at H
           have c13b0 := decide_eq_true c13
           clear c13
           replace H := Option.bind_eq_some_iff.mp H
           obtain ⟨t172, A140, H⟩ := H
           replace H : (if 1 + t172.size ≤ 9223372036854775807 then (if ((⟨#[32]⟩ : ByteArray) ++ t172).size + 1 ≤ 9223372036854775807 then ((strconv_Itoa.f ((rd_T41 l0_1 x16_1).f1)).bind fun t173 => (if (((⟨#[32]⟩ : ByteArray) ++ t172) ++ (⟨#[45]⟩ : ByteArray)).size + t173.size ≤ 9223372036854775807 then (if x4_1.size + ((((⟨#[32]⟩ : ByteArray) ++ t172) ++ (⟨#[45]⟩ : ByteArray)) ++ t173).size ≤ 9223372036854775807 then (impl_GraphText.l0 k1 (x4_1 ++ ((((⟨#[32]⟩ : ByteArray) ++ t172) ++ (⟨#[45]⟩ : ByteArray)) ++ t173)) l0_1 (l0_1.length : Int) (wrap64 (x16_1 + 1))) else (none)) else (none))) else (none)) else (none)) = some (r1, r2) := H
           have A14 := Aside0.mk A140
           clear A140
           by_cases c15 : 1 + t172.size ≤ 9223372036854775807
           · rw [if_pos c15] at H
             have c15b0 := eq_true c15
             have c15b1 : decide (1 + t172.size ≤ 9223372036854775807) = true := decide_eq_true c15
             try have c15b2 : (9223372036854775807 < 1 + t172.size) = False := eq_false (Nat.not_lt.2 c15)
             by_cases c16 : ((⟨#[32]⟩ : ByteArray) ++ t172).size + 1 ≤ 9223372036854775807
             · rw [if_pos c16] at H
               have c16b0 := eq_true c16
               have c16b1 : decide (((⟨#[32]⟩ : ByteArray) ++ t172).size + 1 ≤ 9223372036854775807) = true := decide_eq_true c16
               try have c16b2 : (9223372036854775807 < ((⟨#[32]⟩ : ByteArray) ++ t172).size + 1) = False := eq_false (Nat.not_lt.2 c16)
               have c16b9 : (9223372036854775807 < 1 + t172.size + 1) = False := eq_false (by have h_ := c16; simp only [ByteArray.size_append, show (⟨#[32]⟩ : ByteArray).size = 1 from rfl, show (⟨#[35]⟩ : ByteArray).size = 1 from rfl, show (⟨#[45]⟩ : ByteArray).size = 1 from rfl] at h_; omega)
               replace H := Option.bind_eq_some_iff.mp H
               obtain ⟨t173, A170, H⟩ := H
               replace H : (if (((⟨#[32]⟩ : ByteArray) ++ t172) ++ (⟨#[45]⟩ : ByteArray)).size + t173.size ≤ 9223372036854775807 then (if x4_1.size + ((((⟨#[32]⟩ : ByteArray) ++ t172) ++ (⟨#[45]⟩ : ByteArray)) ++ t173).size ≤ 9223372036854775807 then (impl_GraphText.l0 k1 (x4_1 ++ ((((⟨#[32]⟩ : ByteArray) ++ t172) ++ (⟨#[45]⟩ : ByteArray)) ++ t173)) l0_1 (l0_1.length : Int) (wrap64 (x16_1 + 1))) else (none)) else (none)) = some (r1, r2) := H
               have A17 := Aside0.mk A170
               clear A170
               by_cases c18 : (((⟨#[32]⟩ : ByteArray) ++ t172) ++ (⟨#[45]⟩ : ByteArray)).size + t173.size ≤ 9223372036854775807
               · rw [if_pos c18] at H
                 have c18b0 := eq_true c18
                 have c18b1 : decide ((((⟨#[32]⟩ : ByteArray) ++ t172) ++ (⟨#[45]⟩ : ByteArray)).size + t173.size ≤ 9223372036854775807) = true := decide_eq_true c18
                 try have c18b2 : (9223372036854775807 < (((⟨#[32]⟩ : ByteArray) ++ t172) ++ (⟨#[45]⟩ : ByteArray)).size + t173.size) = False := eq_false (Nat.not_lt.2 c18)
                 have c18b9 : (9223372036854775807 < 1 + t172.size + 1 + t173.size) = False := eq_false (by have h_ := c18; simp only [ByteArray.size_append, show (⟨#[32]⟩ : ByteArray).size = 1 from rfl, show (⟨#[35]⟩ : ByteArray).size = 1 from rfl, show (⟨#[45]⟩ : ByteArray).size = 1 from rfl] at h_; omega)
                 by_cases c19 : x4_1.size + ((((⟨#[32]⟩ : ByteArray) ++ t172) ++ (⟨#[45]⟩ : ByteArray)) ++ t173).size ≤ 9223372036854775807
                 · rw [if_pos c19] at H
                   have c19b0 := eq_true c19
                   have c19b1 : decide (x4_1.size + ((((⟨#[32]⟩ : ByteArray) ++ t172) ++ (⟨#[45]⟩ : ByteArray)) ++ t173).size ≤ 9223372036854775807) = true := decide_eq_true c19
                   try have c19b2 : (9223372036854775807 < x4_1.size + ((((⟨#[32]⟩ : ByteArray) ++ t172) ++ (⟨#[45]⟩ : ByteArray)) ++ t173).size) = False := eq_false (Nat.not_lt.2 c19)
                   have c19b9 : (9223372036854775807 < x4_1.size + (1 + t172.size + 1 + t173.size)) = False := eq_false (by have h_ := c19; simp only [ByteArray.size_append, show (⟨#[32]⟩ : ByteArray).size = 1 from rfl, show (⟨#[35]⟩ : ByteArray).size = 1 from rfl, show (⟨#[45]⟩ : ByteArray).size = 1 from rfl] at h_; omega)
                   have H' := Aside0.mk H
                   clear H
                   have p170 : 0 ≤ (x16_1 : Int) := of_decide_eq_true zA
                   have q170 : x16_1 < (l0_1.length : Int) := of_decide_eq_true zA
                   obtain ⟨ad170, e170, hx170_0, hx170_1⟩ := at_T41 HR0_1.out x16_1 p170 q170
                   cases e170
                   (try replace hx170_0 := (HB.out.cell (World.block_lt_of_cell? w _ hx170_0)).trans hx170_0)
                   (try replace hx170_1 := (HB.out.cell (World.block_lt_of_cell? w _ hx170_1)).trans hx170_1)
                   replace p170 := eq_true p170
                   replace q170 := eq_true q170
                   try go_wp2_with (first | ((with_reducible refine gate_dst (N := 6) rfl ?_); refine ze 6 #[.int .i64 0, .int .i64 0] 41 ?_; intro gb171 hg w20 hbox hb; have BK171 := zM (hbox); have GW171 := zM ((by rw [hg]; exact (below_size zB) : w.heap.size ≤ gb171)); have GE171 := zM ((by rw [hg]; exact (below_size zB) : w.heap.size ≤ gb171)); replace HB := zM (below_step zB hb); have NB167_171 := zM ((by rw [hg]; exact Nat.ne_of_lt (blk_lt (g := gb167) (o := .cells #[.int .i64 a0_0, .slice (some ad170) l0_1.length c0_1] 28 (0, 0)) (zK BK167.out)) : gb167 ≠ gb171)); have NB171_167 := zM ((by rw [hg]; exact Nat.ne_of_gt (blk_lt (g := gb167) (o := .cells #[.int .i64 a0_0, .slice (some ad170) l0_1.length c0_1] 28 (0, 0)) (zK BK167.out)) : gb171 ≠ gb167)); replace BK167 := zM (blk_below (g := gb167) (o := .cells #[.int .i64 a0_0, .slice (some ad170) l0_1.length c0_1] 28 (0, 0)) (zK BK167.out) hb); clear hb hbox hg; have hnb21 := NB171_167.out; have hnc21 := NB167_171.out; have hcz22_0 := zy BK171 0; have hcz22_1 := zy BK171 1; have hfz22_0 := blk_frozen BK171.out 0; have hfz22_1 := blk_frozen BK171.out 1))
                   have n0_ : Aside0 (((w20.setCell ⟨gb171, 0, none⟩ (.int .i64 ((rd_T41 l0_1 x16_1).f0))).setCell ⟨gb171, 1, none⟩ (.int .i64 ((rd_T41 l0_1 x16_1).f1))).heap[gb167]? = some (.cells #[.int .i64 a0_0, .slice (some ad170) l0_1.length c0_1] 28 (0, 0))) := ⟨by (with_reducible repeat (first | refine blk_drewN ?_ _ | refine blk_drew ?_ | refine blk_alloc ?_ _)); refine blk_far ?_ NB167_171.out _; (with_reducible repeat (first | refine blk_drewN ?_ _ | refine blk_drew ?_ | refine blk_alloc ?_ _)); refine blk_far ?_ NB167_171.out _; (with_reducible repeat (first | refine blk_drewN ?_ _ | refine blk_drew ?_ | refine blk_alloc ?_ _)); exact BK167.out⟩
                   have n1_ : Aside0 (((w20.setCell ⟨gb171, 0, none⟩ (.int .i64 ((rd_T41 l0_1 x16_1).f0))).setCell ⟨gb171, 1, none⟩ (.int .i64 ((rd_T41 l0_1 x16_1).f1))).heap[gb171]? = some (.cells #[.int .i64 ((rd_T41 l0_1 x16_1).f0), .int .i64 ((rd_T41 l0_1 x16_1).f1)] 41 (0, 0))) := ⟨by (with_reducible repeat (first | refine blk_drewN ?_ _ | refine blk_drew ?_ | refine blk_alloc ?_ _)); refine blk_put (cs := #[.int .i64 ((rd_T41 l0_1 x16_1).f0), .int .i64 0]) ?_ 1 _ rfl; (with_reducible repeat (first | refine blk_drewN ?_ _ | refine blk_drew ?_ | refine blk_alloc ?_ _)); refine blk_put (cs := #[.int .i64 0, .int .i64 0]) ?_ 0 _ rfl; (with_reducible repeat (first | refine blk_drewN ?_ _ | refine blk_drew ?_ | refine blk_alloc ?_ _)); exact BK171.out⟩
                   have n2_ : Aside0 (Below w.heap.size w ((w20.setCell ⟨gb171, 0, none⟩ (.int .i64 ((rd_T41 l0_1 x16_1).f0))).setCell ⟨gb171, 1, none⟩ (.int .i64 ((rd_T41 l0_1 x16_1).f1)))) := ⟨zB⟩
                   (try clear BK167)
                   (try clear BK171)
                   (try clear HB)
                   generalize ((w20.setCell ⟨gb171, 0, none⟩ (.int .i64 ((rd_T41 l0_1 x16_1).f0))).setCell ⟨gb171, 1, none⟩ (.int .i64 ((rd_T41 l0_1 x16_1).f1))) = w23 at n0_ n1_ n2_ ⊢
                   have BK167 := n0_
                   have BK171 := n1_
                   have HB := n2_
                   clear n0_ n1_ n2_
                   replace BK167 := zM (blk_drew BK167.out)
                   replace BK171 := zM (blk_drew BK171.out)
                   replace HB := zM (below_drew1 HB.out)
                   refine zs (n := 12) (fun w' => w'.cell? ⟨gb171, 0, none⟩ = some (.int .i64 ((rd_T41 l0_1 x16_1).f0)) ∧ w'.cell? ⟨gb171, 1, none⟩ = some (.int .i64 ((rd_T41 l0_1 x16_1).f1))) ⟨(blk_cell BK171.out 0).trans rfl, (blk_cell BK171.out 1).trans rfl⟩ (fun hHeld => ?_); refine with_tabW impl_GraphText.tab7 impl_GraphText.bits7 (fun HT_ HW_ => ?_)
                   generalize w23.drew = w24 at BK167 BK171 HB hHeld ⊢
                   refine zp HT_ 0 20 ?_
                   refine zp HT_ 1 21 ?_
                   refine zp HT_ 6 26 ?_
                   refine zt HT_ HW_ 2 22 hHeld ?_ (hy := by rintro w' ⟨s0, s1⟩; go_simp; with_reducible rfl)
                   refine zt HT_ HW_ 7 27 hHeld ?_ (hy := by rintro w' ⟨s0, s1⟩; go_simp; with_reducible rfl)
                   refine zg HT_ 3 23 Tryd.func19 #[.int .i64 ((rd_T41 l0_1 x16_1).f0)] (fun K hK => ?_)
                   with_reducible refine (strconv_Itoa.calls ((rd_T41 l0_1 x16_1).f0) t172 _ (HPow.out _ zB) A14.out).mono ?_
                   rintro e w25 ⟨rfl, hb⟩
                   refine ⟨_, rfl, ?_⟩
                   replace BK167 := zM (blk_below (g := gb167) (o := .cells #[.int .i64 a0_0, .slice (some ad170) l0_1.length c0_1] 28 (0, 0)) (zK BK167.out) hb)
                   replace BK171 := zM (blk_below (g := gb171) (o := .cells #[.int .i64 ((rd_T41 l0_1 x16_1).f0), .int .i64 ((rd_T41 l0_1 x16_1).f1)] 41 (0, 0)) (zK BK171.out) hb)
                   replace HB := zM (below_step zB hb)
                   (try clear hb)
                   (try clear hb2)
                   (try clear hk)
                   (try clear hi)
                   refine hK.out _ _ ⟨(blk_cell BK171.out 0).trans rfl, (blk_cell BK171.out 1).trans rfl⟩ (fun hHeld => ?_)
                   clear hK K
                   refine zn 23 ?_
                   refine zp HT_ 4 24 ?_
                   refine zp HT_ 5 25 ?_
                   refine zg HT_ 8 28 Tryd.func19 #[.int .i64 ((rd_T41 l0_1 x16_1).f1)] (fun K hK => ?_)
                   with_reducible refine (strconv_Itoa.calls ((rd_T41 l0_1 x16_1).f1) t173 _ (HPow.out _ zB) A17.out).mono ?_
                   rintro e w26 ⟨rfl, hb⟩
                   refine ⟨_, rfl, ?_⟩
                   replace BK167 := zM (blk_below (g := gb167) (o := .cells #[.int .i64 a0_0, .slice (some ad170) l0_1.length c0_1] 28 (0, 0)) (zK BK167.out) hb)
                   replace BK171 := zM (blk_below (g := gb171) (o := .cells #[.int .i64 ((rd_T41 l0_1 x16_1).f0), .int .i64 ((rd_T41 l0_1 x16_1).f1)] 41 (0, 0)) (zK BK171.out) hb)
                   replace HB := zM (below_step zB hb)
                   (try clear hb)
                   (try clear hb2)
                   (try clear hk)
                   (try clear hi)
                   refine hK.out _ _ ⟨(blk_cell BK171.out 0).trans rfl, (blk_cell BK171.out 1).trans rfl⟩ (fun hHeld => ?_)
                   clear hK K
                   refine zn 28 ?_
                   refine zp HT_ 9 29 ?_
                   refine zp HT_ 10 30 ?_
                   refine zp HT_ 11 4 ?_
                   refine zo HT_ ?_
                   try go_wp2
                   go_roundg k1
                   case measure => have := HK1.out; omega
                   case rel => exact ⟨(x4_1 ++ ((((⟨#[32]⟩ : ByteArray) ++ t172) ++ (⟨#[45]⟩ : ByteArray)) ++ t173)), (wrap64 (x16_1 + 1)), (by first | rfl | (simp; done) | (simp [*]; done)), (by first | rfl | (simp; done) | (simp [*]; done)), H', ⟨by have := HK1.out; omega⟩, ⟨zK BK167.out⟩, ⟨zB⟩⟩
                 · rw [if_neg c19] at H
                   exact absurd H (by simp)
               · rw [if_neg c18] at H
                 exact absurd H (by simp)
             · rw [if_neg c16] at H
               exact absurd H (by simp)
           · rw [if_neg c15] at H
             exact absurd H (by simp)
         · rw [if_neg c13] at H
           exact absurd H (by simp)
       · rw [if_neg c12] at H
         exact absurd H (by simp)
     · rw [if_neg c11] at H
       have c11b0 : decide (x16_1 < (l0_1.length : Int)) = false := decide_eq_false c11
       clear c11
       simp only [Option.some.injEq, Prod.mk.injEq] at H
       obtain ⟨rfl, rfl⟩ := H
       go_wp2
       go_ret2
       exact ⟨by first | rfl | (simp [errW_none, errW_some] <;> rfl) | (simp [*, errW_none, errW_some] <;> rfl), zB⟩
 · replace c3 := Bool.eq_false_iff.mpr c3
   subst c3
   have H1 : (some ((⟨#[]⟩ : ByteArray), false)) = some (r1, r2) := by rw [if_neg (show ¬ (false = true) by decide)] at H; exact H
   clear H
   have H := H1
   clear H1
   simp only [Option.some.injEq, Prod.mk.injEq] at H
   obtain ⟨rfl, rfl⟩ := H
   go_enter Tryd.func8, Tryd.ntmps8
   go_wp2_with (first | ((with_reducible refine gate_dst (N := 1) rfl ?_); refine zb (w := w) 1 #[.int .i64 a0_0, .slice A0_1 l0_1.length c0_1] 28 zB ?_; clear HB; intro gb167 w27 HB BK167 GW167; have GE167 := GW167; have hcz28_0 := zy BK167 0; have hcz28_1 := zy BK167 1; have hfz28_0 := blk_frozen BK167.out 0; have hfz28_1 := blk_frozen BK167.out 1) | ((with_reducible refine gate_callee (f := 18) rfl ?_); refine zc 8 Tryd.func18 #[.agg #[.int .i64 a0_0, .slice A0_1 l0_1.length c0_1]] ?_; (with_reducible refine (impl_IsGraph.calls k a0_0 _ _ l0_1 false _ ?side1 ?side2 A2.out).mono ?_); (case side1 => exact zC (Kd.C_below HR0_1.out HB.out)); (case side2 => exact HC0_1.out); rintro e w29 ⟨rfl, hb⟩; refine ⟨_, rfl, ?_⟩; replace BK167 := zM (blk_below (g := gb167) (o := .cells #[.int .i64 a0_0, .slice A0_1 l0_1.length c0_1] 28 (0, 0)) (zK BK167.out) hb); replace HB := zM (below_step zB hb); (try clear hb); (try clear hb2); (try clear hk); (try clear hi)))
   go_ret2
   exact ⟨by first | rfl | (simp [errW_none, errW_some] <;> rfl) | (simp [*, errW_none, errW_some] <;> rfl), zB⟩

end Go.Proofs.YtfkcddambaadjaaDoor.P
namespace Go.Proofs.YtfkcddambaadjaaDoor.P
open Go.RowKit Go.Proofs.YtfkcddambaadjaaDoorW.PrintWords Go.Proofs.YtfkcddambaadjaaDoorW.PrintLast Go.Proofs.YtfkcddambaadjaaDoorW.PrintMore
set_option linter.unusedVariables false
set_option linter.unusedSimpArgs false
theorem goodP_allG (n : Int) (l : List S41) : ∀ p, goodP n p l = true → ∀ e ∈ l, 0 ≤ e.f0 ∧ e.f0 < e.f1 ∧ e.f1 < n := by
  induction l with
  | nil => intro p _ e he; cases he
  | cons x t ih =>
    intro p h e he
    simp only [goodP, Bool.and_eq_true, decide_eq_true_eq] at h
    rcases List.mem_cons.1 he with rfl | he
    · exact ⟨h.1.1.1, h.1.1.2, h.1.2⟩
    · exact ih _ h.2.2 e he
theorem okG_small (a : Int) (l : List S41) (h : okG a l = true) : (0 ≤ a ∧ a ≤ 8) ∧ ∀ e ∈ l, 0 ≤ e.f0 ∧ e.f0 < e.f1 ∧ e.f1 < a := by
  unfold okG at h
  simp only [Bool.and_eq_true, decide_eq_true_eq] at h
  exact ⟨h.1, goodP_allG a l none h.2⟩
theorem okG_fit (a : Int) (l : List S41) (h : okG a l = true) : (-9223372036854775807 < a ∧ a < 9223372036854775807) ∧ ∀ e ∈ l, smallE e := by
  obtain ⟨h1, h2⟩ := okG_small a l h
  refine ⟨by omega, fun e he => ?_⟩
  have := h2 e he
  unfold smallE
  omega
theorem itoa_f (n : Int) (h : -9223372036854775807 < n ∧ n < 9223372036854775807) : strconv_Itoa.f n = some (str (Lib.itoa n)) := if_pos ⟨by omega, by omega⟩
theorem implText_loop (l : List S41) (hl : l.length ≤ 1048576) (hs : ∀ e ∈ l, smallE e) (d : Nat) : ∀ (m : Nat) (acc : ByteArray), l.length - m = d → m ≤ l.length → acc.size ≤ 44 * m + 44 →
    Ev (fun k => impl_GraphText.l0 k acc l (l.length : Int) (m : Int)) ((l.drop m).foldl edgeB acc, true) := by
  induction d with
  | zero =>
    intro m acc h1 h2 h3
    rw [List.drop_eq_nil_of_le (by omega), List.foldl_nil]
    exact Ev.step (fun k => by rw [impl_GraphText.l0]) (Ev.neg (by omega) (Ev.now _))
  | succ d ih =>
    intro m acc h1 h2 h3
    have hm : m < l.length := by omega
    obtain ⟨x1, x2⟩ := hs l[m] (List.getElem_mem hm)
    have l1 := Lib.itoa_length_le l[m].f0 (by omega) (by omega)
    have l2 := Lib.itoa_length_le l[m].f1 (by omega) (by omega)
    rw [List.drop_eq_getElem_cons hm, List.foldl_cons]
    refine Ev.step (fun k => by rw [impl_GraphText.l0]) (Ev.pos (by omega) (Ev.pos (by omega) (Ev.pos (by omega) ?_)))
    rw [rdT_at l m hm]
    refine Ev.bindo (itoa_f _ x1) ?_
    refine Ev.pos (by rw [str_size]; omega) ?_
    refine Ev.pos (by simp only [ByteArray.size_append, str_size, show (⟨#[32]⟩ : ByteArray).size = 1 from rfl]; omega) ?_
    refine Ev.bindo (itoa_f _ x2) ?_
    refine Ev.pos (by simp only [ByteArray.size_append, str_size, show (⟨#[32]⟩ : ByteArray).size = 1 from rfl, show (⟨#[45]⟩ : ByteArray).size = 1 from rfl]; omega) ?_
    refine Ev.pos (by simp only [ByteArray.size_append, str_size, show (⟨#[32]⟩ : ByteArray).size = 1 from rfl, show (⟨#[45]⟩ : ByteArray).size = 1 from rfl]; omega) ?_
    rw [wrap_up (m := m) (n := l.length) (by omega) (by omega)]
    have e : acc ++ ((((⟨#[32]⟩ : ByteArray) ++ str (Lib.itoa l[m].f0)) ++ (⟨#[45]⟩ : ByteArray)) ++ str (Lib.itoa l[m].f1)) = edgeB acc l[m] := by
      simp only [edgeB, ByteArray.append_assoc]
    rw [e]
    exact ih (m + 1) (edgeB acc l[m]) (by omega) (by omega) (by rw [edgeB_size]; omega)
theorem impl_GraphText_ev (a : Int) (l : List S41) (hl : l.length ≤ 1048576) : Ev (fun k => impl_GraphText.f k a l) (graR a l) := by
  unfold impl_GraphText.f
  refine Ev.bind (impl_IsGraph_ev a l hl) ?_
  cases h : okG a l with
  | true =>
    rw [show graR a l = (textB a l, true) from if_pos h]
    refine Ev.pos rfl ?_
    have hf := okG_fit a l h
    refine Ev.bindo (itoa_f _ hf.1) ?_
    have l1 := Lib.itoa_length_le a (by omega) (by omega)
    have := implText_loop l hl hf.2 _ 0 (str (Lib.itoa a)) rfl (Nat.zero_le _) (by rw [str_size]; omega)
    rw [List.drop_zero] at this
    exact this
  | false =>
    rw [show graR a l = (⟨#[]⟩, false) from if_neg (by rw [h]; decide)]
    exact Ev.neg (by decide) (Ev.now _)
end Go.Proofs.YtfkcddambaadjaaDoor.P
namespace Go.Proofs.YtfkcddambaadjaaDoor.P
open Go.RowKit Go.Proofs.YtfkcddambaadjaaDoorW.PrintWords Go.Proofs.YtfkcddambaadjaaDoorW.PrintLast Go.Proofs.YtfkcddambaadjaaDoorW.PrintMore
set_option linter.unusedVariables false
set_option linter.unusedSimpArgs false
theorem spl_free (c : UInt8) (p : List UInt8) (h : ¬ c ∈ p) : spl c p = [p] := by
  induction p with
  | nil => rfl
  | cons b p ih =>
    rw [List.mem_cons, not_or] at h
    rw [spl, if_neg (fun e => h.1 e.symm), ih h.2]
    rfl
theorem spl_at (c : UInt8) (p q : List UInt8) (h : ¬ c ∈ p) : spl c (p ++ c :: q) = p :: spl c q := by
  induction p with
  | nil => rw [List.nil_append, spl, if_pos rfl]
  | cons b p ih =>
    rw [List.mem_cons, not_or] at h
    rw [List.cons_append, spl, if_neg (fun e => h.1 e.symm), ih h.2]
    rfl
theorem dig_free (n : Nat) (c : UInt8) (h : c.toNat < 48 ∨ 57 < c.toNat) : ¬ c ∈ Lib.decDigits n := fun hc => by
  have h2 : 48 ≤ c.toNat ∧ c.toNat ≤ 57 := of_decide_eq_true (List.all_eq_true.1 (dec_dig n) c hc)
  omega
theorem itoa_nat (n : Int) (h : 0 ≤ n) : Lib.itoa n = Lib.decDigits n.toNat := if_neg (by omega)
def wordL (e : S41) : List UInt8 := Lib.itoa e.f0 ++ 45 :: Lib.itoa e.f1
theorem str_list (l : List UInt8) : (str l).data.toList = l := by simp [str]
theorem edgeB_list (acc : ByteArray) (e : S41) : (edgeB acc e).data.toList = acc.data.toList ++ 32 :: wordL e := by
  simp [edgeB, wordL, str]
theorem fold_list (l : List S41) : ∀ acc : ByteArray, (l.foldl edgeB acc).data.toList = acc.data.toList ++ l.flatMap fun e => 32 :: wordL e := by
  induction l with
  | nil => intro acc; simp
  | cons e l ih => intro acc; rw [List.foldl_cons, ih, edgeB_list]; simp
theorem text_list (a : Int) (l : List S41) : (textB a l).data.toList = Lib.itoa a ++ l.flatMap fun e => 32 :: wordL e := by
  rw [textB, fold_list, str_list]
def goodE (e : S41) : Prop := (0 ≤ e.f0 ∧ e.f0 ≤ 8) ∧ (0 ≤ e.f1 ∧ e.f1 ≤ 8)
theorem word_free (e : S41) (h : goodE e) : ¬ (32 : UInt8) ∈ wordL e := by
  unfold wordL
  rw [itoa_nat _ h.1.1, itoa_nat _ h.2.1, List.mem_append, List.mem_cons, not_or, not_or]
  exact ⟨dig_free _ 32 (.inl (by decide)), by decide, dig_free _ 32 (.inl (by decide))⟩
theorem words_tail (l : List S41) (h : ∀ e ∈ l, goodE e) : ∀ p : List UInt8, ¬ (32 : UInt8) ∈ p → spl 32 (p ++ l.flatMap fun e => 32 :: wordL e) = p :: l.map wordL := by
  induction l with
  | nil => intro p hp; simp only [List.flatMap_nil, List.append_nil, List.map_nil]; exact spl_free 32 p hp
  | cons e l ih =>
    intro p hp
    rw [List.flatMap_cons, List.cons_append, spl_at 32 p _ hp, ih (fun x hx => h x (List.mem_cons_of_mem _ hx)) (wordL e) (word_free e (h e (List.mem_cons_self ..))), List.map_cons]
theorem words_text (a : Int) (l : List S41) (h : okG a l = true) : spl 32 (textB a l).data.toList = Lib.itoa a :: l.map wordL := by
  obtain ⟨h1, h2⟩ := okG_small a l h
  rw [text_list]
  refine words_tail l (fun e he => ?_) _ ?_
  · have := h2 e he
    unfold goodE
    omega
  · rw [itoa_nat _ h1.1]
    exact dig_free _ 32 (.inl (by decide))
theorem cut_word (e : S41) (h : goodE e) : Lib.cut (wordL e) [45] = (Lib.itoa e.f0, Lib.itoa e.f1, true) := by
  have hf : ¬ (45 : UInt8) ∈ Lib.itoa e.f0 := by rw [itoa_nat _ h.1.1]; exact dig_free _ 45 (.inl (by decide))
  have key : ∀ p q : List UInt8, ¬ (45 : UInt8) ∈ p → Lib.indexByte (p ++ 45 :: q) 45 = (p.length : Int) := by
    intro p q
    induction p with
    | nil => intro _; simp [Lib.indexByte]
    | cons b p ih =>
      intro hp
      rw [List.mem_cons, not_or] at hp
      rw [List.cons_append, Lib.indexByte, ih hp.2, if_neg (fun e => hp.1 (beq_iff_eq.1 e).symm), if_neg (fun e => by have := beq_iff_eq.1 e; omega), List.length_cons]
      omega
  rw [Lib.cut, Lib.index_one, wordL, key _ _ hf, if_pos (by omega), Int.toNat_natCast]
  simp
def tri : Nat → Nat → Nat := fun i j => i * (15 - i) / 2 + (j - i - 1)
theorem tri_lt : ∀ i, i < 8 → ∀ j, j < 8 → i < j → tri i j < 28 := by decide
theorem tri_all : (∀ i j i' j' : Fin 8, i.val < j.val → i'.val < j'.val → (decide (i.val < i'.val) || (decide (i.val = i'.val) && decide (j.val < j'.val))) = true → tri i.val j.val < tri i'.val j'.val) := by decide +kernel
theorem tri_mono (i : Nat) (hi : i < 8) (j : Nat) (hj : j < 8) (i' : Nat) (hi' : i' < 8) (j' : Nat) (hj' : j' < 8) (h1 : i < j) (h2 : i' < j') (h3 : i < i' ∨ i = i' ∧ j < j') : tri i j < tri i' j' :=
  tri_all ⟨i, hi⟩ ⟨j, hj⟩ ⟨i', hi'⟩ ⟨j', hj'⟩ h1 h2 (by simpa using h3)
theorem good_len (n : Int) (hn : n ≤ 8) (l : List S41) : ∀ p : Option S41, (∀ q, p = some q → 0 ≤ q.f0 ∧ q.f0 < q.f1 ∧ q.f1 < n) → goodP n p l = true → l.length + (match p with | none => 0 | some q => tri q.f0.toNat q.f1.toNat + 1) ≤ 28 := by
  induction l with
  | nil =>
    intro p hp _
    cases p with
    | none => simp
    | some q =>
      obtain ⟨h1, h2, h3⟩ := hp q rfl
      have := tri_lt q.f0.toNat (by omega) q.f1.toNat (by omega) (by omega)
      simp only [List.length_nil]
      omega
  | cons e l ih =>
    intro p hp h
    simp only [goodP, Bool.and_eq_true, decide_eq_true_eq] at h
    have h4 := ih (some e) (fun q hq => by cases hq; exact ⟨h.1.1.1, h.1.1.2, h.1.2⟩) h.2.2
    simp only at h4
    cases p with
    | none => simp only [List.length_cons]; omega
    | some q =>
      obtain ⟨h1, h2, h3⟩ := hp q rfl
      have hb := h.2.1
      simp only [befP] at hb
      have hlex : q.f0.toNat < e.f0.toNat ∨ q.f0.toNat = e.f0.toNat ∧ q.f1.toNat < e.f1.toNat := by
        simp at hb
        omega
      have := tri_mono q.f0.toNat (by omega) q.f1.toNat (by omega) e.f0.toNat (by omega) e.f1.toNat (by omega) (by omega) (by omega) hlex
      simp only [List.length_cons]
      omega
theorem okG_len (a : Int) (l : List S41) (h : okG a l = true) : l.length ≤ 28 := by
  have h1 := okG_small a l h
  unfold okG at h
  simp only [Bool.and_eq_true, decide_eq_true_eq] at h
  have := good_len a h1.1.2 l none (fun q hq => by cases hq) h.2
  simpa using this
end Go.Proofs.YtfkcddambaadjaaDoor.P
