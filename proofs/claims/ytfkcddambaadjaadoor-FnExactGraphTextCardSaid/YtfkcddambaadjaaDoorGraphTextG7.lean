/- Both sides' test of a list of edges, and of a graph, say what goodP and okG say in plain words. -/
import Derived.Test.YtfkcddambaadjaaDoorGraphTextG6
import Derived.Test.YtfkcddambaadjaaDoorGraphTextG5
import Derived.Test.YtfkcddambaadjaaDoorGraphTextG4
import Derived.Test.YtfkcddambaadjaaDoorGraphTextG3
namespace Go.Proofs.YtfkcddambaadjaaDoor.P
open Go.RowKit Go.Proofs.YtfkcddambaadjaaDoorW.PrintWords Go.Proofs.YtfkcddambaadjaaDoorW.PrintLast Go.Proofs.YtfkcddambaadjaaDoorW.PrintMore
set_option linter.unusedVariables false
set_option linter.unusedSimpArgs false

theorem in_at (a lo hi : Int) : spec_l1In.f a lo hi = some (decide (lo ≤ a) && decide (a ≤ hi)) := by
  unfold spec_l1In.f
  by_cases h : lo ≤ a
  · rw [if_pos h, decide_eq_true h, Bool.true_and]
  · rw [if_neg h, decide_eq_false h, Bool.false_and]
theorem between_at (a lo hi : Int) : impl_between.f a lo hi = some (decide (lo ≤ a) && decide (a ≤ hi)) := by
  unfold impl_between.f
  by_cases h : lo ≤ a
  · rw [if_pos h, decide_eq_true h, Bool.true_and]
  · rw [if_neg h, decide_eq_false h, Bool.false_and]
/-- A pair comes before another one. -/
def befP (a b : S41) : Bool := decide (a.f0 < b.f0) || (decide (a.f0 = b.f0) && decide (a.f1 < b.f1))
theorem edge_at (a b : S41) : spec_l2Edge.f a.f0 a.f1 b.f0 b.f1 = some (befP a b) := by
  unfold spec_l2Edge.f befP
  by_cases h : a.f0 < b.f0
  · rw [if_pos h, decide_eq_true h, Bool.true_or]
  · rw [if_neg h, decide_eq_false h, Bool.false_or]
    by_cases h2 : a.f0 = b.f0
    · rw [if_pos h2, decide_eq_true h2, Bool.true_and]
    · rw [if_neg h2, decide_eq_false h2, Bool.false_and]
theorem cmpP_bef (a b : S41) : (cmpP a b < 0) ↔ befP a b = true := by
  unfold cmpP befP cmpI
  simp only [Bool.or_eq_true, Bool.and_eq_true, decide_eq_true_eq]
  by_cases h : a.f0 < b.f0
  · simp [h]
  · by_cases h2 : b.f0 < a.f0
    · have : ¬ a.f0 = b.f0 := by omega
      simp [h, h2, this]
    · have h3 : a.f0 = b.f0 := by omega
      by_cases h4 : a.f1 < b.f1
      · simp [h3, h4]
      · by_cases h5 : b.f1 < a.f1 <;> simp [h3, h4, h5]
/-- Pairs of numbers from 0 on below n, the less one first, strictly ascending behind a first one. -/
def goodP (n : Int) : Option S41 → List S41 → Bool
  | _, [] => true
  | p, e :: t => (decide (0 ≤ e.f0) && decide (e.f0 < e.f1) && decide (e.f1 < n)) && ((match p with | none => true | some q => befP q e) && goodP n (some e) t)
def prevP (l : List S41) : Nat → Option S41
  | 0 => none
  | m + 1 => l[m]?
theorem goodP_step (l : List S41) (n : Int) (m : Nat) (hm : m < l.length) : goodP n (prevP l m) (l.drop m) = ((decide (0 ≤ l[m].f0) && decide (l[m].f0 < l[m].f1) && decide (l[m].f1 < n)) && ((match prevP l m with | none => true | some q => befP q l[m]) && goodP n (prevP l (m + 1)) (l.drop (m + 1)))) := by
  rw [List.drop_eq_getElem_cons hm, show prevP l (m + 1) = some l[m] from List.getElem?_eq_getElem hm]
  cases prevP l m <;> rfl
theorem l2Pairs_loop (l : List S41) (n : Int) (hn : 0 ≤ n) (hn2 : n ≤ 4611686018427387904) (hl : l.length ≤ 1048576) (d : Nat) : ∀ (m : Nat), l.length - m = d → m ≤ l.length →
    Ev (fun k => spec_l2Pairs.l0 k l n (m : Int)) (goodP n (prevP l m) (l.drop m)) := by
  induction d with
  | zero =>
    intro m h0 h1
    refine Ev.step (fun k => by rw [spec_l2Pairs.l0]) ?_
    have e3 : l.drop m = [] := List.drop_eq_nil_of_le (by omega)
    rw [e3]
    refine Ev.neg (by omega) ?_
    cases prevP l m <;> exact Ev.now _
  | succ d ih =>
    intro m h0 h1
    have hm : m < l.length := by omega
    refine Ev.step (fun k => by rw [spec_l2Pairs.l0]) ?_
    rw [goodP_step l n m hm]
    refine Ev.pos (by omega) (Ev.pos (by omega) ?_)
    rw [rdT_at l m hm, wrap_nat (m := n - 1) (by omega) (by omega)]
    have ihm := ih (m + 1) (by omega) (by omega)
    rw [← wrap_up hm (by omega)] at ihm
    generalize goodP n (prevP l (m + 1)) (l.drop (m + 1)) = R at ihm ⊢
    refine Ev.bindo (in_at _ _ _) ?_
    by_cases c1 : 0 ≤ l[m].f0
    · by_cases c2 : l[m].f0 ≤ n - 1
      · refine Ev.pos (by simp [c1, c2]) (Ev.bindo (in_at _ _ _) ?_)
        by_cases c3 : 0 ≤ l[m].f1 ∧ l[m].f1 ≤ n - 1
        · refine Ev.pos (by simp [c3.1, c3.2]) ?_
          by_cases c4 : l[m].f0 ≥ l[m].f1
          · have : (decide (0 ≤ l[m].f0) && decide (l[m].f0 < l[m].f1) && decide (l[m].f1 < n)) = false := by simp; omega
            rw [this, Bool.false_and]
            exact Ev.pos c4 (Ev.now _)
          · have : (decide (0 ≤ l[m].f0) && decide (l[m].f0 < l[m].f1) && decide (l[m].f1 < n)) = true := by simp; omega
            rw [this, Bool.true_and]
            refine Ev.neg c4 ?_
            cases m with
            | zero =>
              refine Ev.neg (by omega) ?_
              simp only [prevP, Bool.true_and]
              exact ihm
            | succ q =>
              have hq : q < l.length := by omega
              have hw : wrap64 (((q + 1 : Nat) : Int) - 1) = (q : Int) := by unfold wrap64; omega
              refine Ev.pos (by omega) ?_
              rw [hw]
              refine Ev.pos (by omega) (Ev.pos (by omega) ?_)
              rw [rdT_at l q hq]
              refine Ev.bindo (edge_at _ _) ?_
              simp only [prevP, List.getElem?_eq_getElem hq]
              cases befP l[q] l[q + 1] with
              | true => rw [Bool.true_and]; exact Ev.pos rfl ihm
              | false => rw [Bool.false_and]; exact Ev.neg (by decide) (Ev.now _)
        · have : (decide (0 ≤ l[m].f0) && decide (l[m].f0 < l[m].f1) && decide (l[m].f1 < n)) = false := by simp; omega
          rw [this, Bool.false_and]
          exact Ev.neg (by simp; omega) (Ev.now _)
      · have : (decide (0 ≤ l[m].f0) && decide (l[m].f0 < l[m].f1) && decide (l[m].f1 < n)) = false := by simp; omega
        rw [this, Bool.false_and]
        exact Ev.neg (by simp; omega) (Ev.now _)
    · have : (decide (0 ≤ l[m].f0) && decide (l[m].f0 < l[m].f1) && decide (l[m].f1 < n)) = false := by simp; omega
      rw [this, Bool.false_and]
      exact Ev.neg (by simp; omega) (Ev.now _)
theorem isPairs_loop (l : List S41) (n : Int) (hl : l.length ≤ 1048576) (d : Nat) : ∀ (m : Nat), l.length - m = d → m ≤ l.length →
    Ev (fun k => impl_isPairs.l0 k l n l (l.length : Int) (m : Int)) (goodP n (prevP l m) (l.drop m)) := by
  induction d with
  | zero =>
    intro m h0 h1
    refine Ev.step (fun k => by rw [impl_isPairs.l0]) ?_
    have e3 : l.drop m = [] := List.drop_eq_nil_of_le (by omega)
    rw [e3]
    refine Ev.neg (by omega) ?_
    cases prevP l m <;> exact Ev.now _
  | succ d ih =>
    intro m h0 h1
    have hm : m < l.length := by omega
    refine Ev.step (fun k => by rw [impl_isPairs.l0]) ?_
    rw [goodP_step l n m hm]
    refine Ev.pos (by omega) (Ev.pos (by omega) (Ev.pos (by omega) ?_))
    rw [rdT_at l m hm]
    have ihm := ih (m + 1) (by omega) (by omega)
    rw [← wrap_up hm (by omega)] at ihm
    generalize goodP n (prevP l (m + 1)) (l.drop (m + 1)) = R at ihm ⊢
    by_cases c1 : l[m].f0 < 0
    · have : (decide (0 ≤ l[m].f0) && decide (l[m].f0 < l[m].f1) && decide (l[m].f1 < n)) = false := by simp; omega
      rw [this, Bool.false_and]
      exact Ev.pos c1 (Ev.now _)
    · refine Ev.neg c1 ?_
      by_cases c2 : l[m].f0 ≥ l[m].f1
      · have : (decide (0 ≤ l[m].f0) && decide (l[m].f0 < l[m].f1) && decide (l[m].f1 < n)) = false := by simp; omega
        rw [this, Bool.false_and]
        exact Ev.pos c2 (Ev.now _)
      · refine Ev.neg c2 ?_
        by_cases c3 : l[m].f1 ≥ n
        · have : (decide (0 ≤ l[m].f0) && decide (l[m].f0 < l[m].f1) && decide (l[m].f1 < n)) = false := by simp; omega
          rw [this, Bool.false_and]
          exact Ev.pos c3 (Ev.now _)
        · have : (decide (0 ≤ l[m].f0) && decide (l[m].f0 < l[m].f1) && decide (l[m].f1 < n)) = true := by simp; omega
          rw [this, Bool.true_and]
          refine Ev.neg c3 ?_
          cases m with
          | zero =>
            refine Ev.neg (by omega) ?_
            simp only [prevP, Bool.true_and]
            exact ihm
          | succ q =>
            have hq : q < l.length := by omega
            have hw : wrap64 (((q + 1 : Nat) : Int) - 1) = (q : Int) := by unfold wrap64; omega
            refine Ev.pos (by omega) ?_
            rw [hw]
            refine Ev.pos (by omega) (Ev.pos (by omega) ?_)
            rw [rdT_at l q hq]
            refine Ev.bind (a := cmpP l[q] l[q + 1]) ⟨3, fun k hk => comparePairs_at _ _ k hk⟩ ?_
            simp only [prevP, List.getElem?_eq_getElem hq]
            have hb := cmpP_bef l[q] l[q + 1]
            cases hbb : befP l[q] l[q + 1] with
            | true => rw [Bool.true_and]; exact Ev.neg (by have := hb.2 hbb; omega) ihm
            | false => rw [Bool.false_and]; exact Ev.pos (by rw [hbb] at hb; have : ¬ cmpP l[q] l[q+1] < 0 := fun h => by have := hb.1 h; cases this
                                                             omega) (Ev.now _)
theorem l2Pairs_ev (l : List S41) (n : Int) (hn : 0 ≤ n) (hn2 : n ≤ 4611686018427387904) (hl : l.length ≤ 1048576) : Ev (fun k => spec_l2Pairs.f k l n) (goodP n none l) :=
  l2Pairs_loop l n hn hn2 hl l.length 0 (by omega) (Nat.zero_le _)
theorem isPairs_ev (l : List S41) (n : Int) (hl : l.length ≤ 1048576) : Ev (fun k => impl_isPairs.f k l n) (goodP n none l) :=
  isPairs_loop l n hl l.length 0 (by omega) (Nat.zero_le _)
/-- A valid graph. -/
def okG (a : Int) (l : List S41) : Bool := (decide (0 ≤ a) && decide (a ≤ 8)) && goodP a none l
theorem l2Good_ev (a : Int) (l : List S41) (hl : l.length ≤ 1048576) : Ev (fun k => spec_l2Good.f k a l) (okG a l) := by
  unfold spec_l2Good.f okG
  refine Ev.bindo (in_at _ _ _) ?_
  by_cases h : (decide (0 ≤ a) && decide (a ≤ 8)) = true
  · rw [h, Bool.true_and]
    simp at h
    exact Ev.pos rfl (Ev.bind (l2Pairs_ev l a h.1 (by omega) hl) (Ev.now _))
  · have h2 : (decide (0 ≤ a) && decide (a ≤ 8)) = false := by simpa using h
    rw [h2, Bool.false_and]
    exact Ev.neg (by decide) (Ev.now _)
theorem impl_IsGraph_ev (a : Int) (l : List S41) (hl : l.length ≤ 1048576) : Ev (fun k => impl_IsGraph.f k a l) (okG a l) := by
  unfold impl_IsGraph.f okG
  refine Ev.bindo (between_at _ _ _) ?_
  by_cases h : (decide (0 ≤ a) && decide (a ≤ 8)) = true
  · rw [h, Bool.true_and]
    exact Ev.pos rfl (Ev.bind (isPairs_ev l a hl) (Ev.now _))
  · have h2 : (decide (0 ≤ a) && decide (a ≤ 8)) = false := by simpa using h
    rw [h2, Bool.false_and]
    exact Ev.neg (by decide) (Ev.now _)
end Go.Proofs.YtfkcddambaadjaaDoor.P
namespace Go.Proofs.YtfkcddambaadjaaDoor.P
open Go.RowKit Go.Proofs.YtfkcddambaadjaaDoorW.PrintWords Go.Proofs.YtfkcddambaadjaaDoorW.PrintLast Go.Proofs.YtfkcddambaadjaaDoorW.PrintMore
set_option linter.unusedVariables false
set_option linter.unusedSimpArgs false
/-- A text with an edge behind it. -/
def edgeB (acc : ByteArray) (e : S41) : ByteArray := (((acc ++ (⟨#[32]⟩ : ByteArray)) ++ str (Lib.itoa e.f0)) ++ (⟨#[45]⟩ : ByteArray)) ++ str (Lib.itoa e.f1)
def textB (a : Int) (l : List S41) : ByteArray := l.foldl edgeB (str (Lib.itoa a))
theorem edgeB_size (acc : ByteArray) (e : S41) : (edgeB acc e).size = acc.size + 1 + (Lib.itoa e.f0).length + 1 + (Lib.itoa e.f1).length := by
  simp only [edgeB, ByteArray.size_append, str_size, show (⟨#[32]⟩ : ByteArray).size = 1 from rfl, show (⟨#[45]⟩ : ByteArray).size = 1 from rfl]
def smallE (e : S41) : Prop := (-9223372036854775807 < e.f0 ∧ e.f0 < 9223372036854775807) ∧ (-9223372036854775807 < e.f1 ∧ e.f1 < 9223372036854775807)
theorem text_loop (a : Int) (l : List S41) (hl : l.length ≤ 1048576) (hs : ∀ e ∈ l, smallE e) (d : Nat) : ∀ (m : Nat) (acc : ByteArray), l.length - m = d → m ≤ l.length → acc.size ≤ 44 * m + 44 →
    Ev (fun k => spec_l2Text.l0 k acc (m : Int) a l) ((l.drop m).foldl edgeB acc) := by
  induction d with
  | zero =>
    intro m acc h1 h2 h3
    rw [List.drop_eq_nil_of_le (by omega), List.foldl_nil]
    exact Ev.step (fun k => by rw [spec_l2Text.l0]) (Ev.neg (by omega) (Ev.now _))
  | succ d ih =>
    intro m acc h1 h2 h3
    have hm : m < l.length := by omega
    obtain ⟨⟨x1, x2⟩, x3, x4⟩ := hs l[m] (List.getElem_mem hm)
    have l1 := Lib.itoa_length_le l[m].f0 (by omega) (by omega)
    have l2 := Lib.itoa_length_le l[m].f1 (by omega) (by omega)
    rw [List.drop_eq_getElem_cons hm, List.foldl_cons]
    refine Ev.step (fun k => by rw [spec_l2Text.l0]) (Ev.pos (by omega) (Ev.pos (by omega) (Ev.pos (by omega) ?_)))
    rw [rdT_at l m hm]
    refine Ev.bind (num_any l[m].f0 x1 x2) ?_
    refine Ev.pos (by simp only [ByteArray.size_append, str_size, show (⟨#[32]⟩ : ByteArray).size = 1 from rfl]; omega) ?_
    refine Ev.pos (by simp only [ByteArray.size_append, str_size, show (⟨#[32]⟩ : ByteArray).size = 1 from rfl]; omega) ?_
    refine Ev.bind (num_any l[m].f1 x3 x4) ?_
    refine Ev.pos (by simp only [ByteArray.size_append, str_size, show (⟨#[32]⟩ : ByteArray).size = 1 from rfl, show (⟨#[45]⟩ : ByteArray).size = 1 from rfl]; omega) ?_
    rw [wrap_up (m := m) (n := l.length) (by omega) (by omega)]
    exact ih (m + 1) (edgeB acc l[m]) (by omega) (by omega) (by rw [edgeB_size]; omega)
theorem l2Text_ev (a : Int) (l : List S41) (hl : l.length ≤ 1048576) (ha : -9223372036854775807 < a ∧ a < 9223372036854775807) (hs : ∀ e ∈ l, smallE e) : Ev (fun k => spec_l2Text.f k a l) (textB a l) := by
  unfold spec_l2Text.f
  refine Ev.bind (num_any a ha.1 ha.2) ?_
  have l1 := Lib.itoa_length_le a (by omega) (by omega)
  have := text_loop a l hl hs _ 0 (str (Lib.itoa a)) rfl (Nat.zero_le _) (by rw [str_size]; omega)
  rw [List.drop_zero] at this
  exact this
def graR (a : Int) (l : List S41) : ByteArray × Bool := if okG a l = true then (textB a l, true) else (⟨#[]⟩, false)
theorem spec_GraphText_ev (a : Int) (l : List S41) (hl : l.length ≤ 1048576) (hs : okG a l = true → (-9223372036854775807 < a ∧ a < 9223372036854775807) ∧ ∀ e ∈ l, smallE e) : Ev (fun k => spec_GraphText.f k a l) (graR a l) := by
  unfold spec_GraphText.f
  refine Ev.bind (l2Good_ev a l hl) ?_
  cases h : okG a l with
  | true =>
    rw [show graR a l = (textB a l, true) from if_pos h]
    refine Ev.pos rfl ?_
    exact Ev.bind (l2Text_ev a l hl (hs h).1 (hs h).2) (Ev.now _)
  | false =>
    rw [show graR a l = (⟨#[]⟩, false) from if_neg (by rw [h]; decide)]
    exact Ev.neg (by decide) (Ev.now _)
end Go.Proofs.YtfkcddambaadjaaDoor.P
namespace Go.Proofs.YtfkcddambaadjaaDoor.P
open Go.RowKit Go.Proofs.YtfkcddambaadjaaDoorW.PrintWords Go.Proofs.YtfkcddambaadjaaDoorW.PrintLast Go.Proofs.YtfkcddambaadjaaDoorW.PrintMore
def strconv_Itoa.f (a0 : Int) : Option ByteArray := if -9223372036854775808 ≤ a0 ∧ a0 ≤ 9223372036854775807 then some (str (Lib.itoa a0)) else none
theorem strconv_Itoa.calls (a0 : Int) (r : ByteArray) (w : World) (hp : Pow w) (h : strconv_Itoa.f a0 = some r) :
    Calls Tryd.prog 19 #[.int .i64 a0] w fun e w' => e = .returned (.string r) ∧ Below w.heap.size w w' := by
  unfold strconv_Itoa.f at h
  by_cases c : -9223372036854775808 ≤ a0 ∧ a0 ≤ 9223372036854775807
  · rw [if_pos c] at h
    obtain rfl := Option.some.inj h
    exact itoa_calls a0 c.1 c.2 w hp
  · rw [if_neg c] at h; cases h
end Go.Proofs.YtfkcddambaadjaaDoor.P
namespace Go.Proofs.YtfkcddambaadjaaDoor.P
open Go.RowKit Go.Proofs.YtfkcddambaadjaaDoorW.PrintWords Go.Proofs.YtfkcddambaadjaaDoorW.PrintLast Go.Proofs.YtfkcddambaadjaaDoorW.PrintMore
attribute [local go_sem] max2_int min2_int max_two min_two max_three min_three max_four min_four   -- for this text's walks alone
set_option linter.unusedVariables false
set_option linter.unusedSimpArgs false

/-! ### impl_GraphText: function 8 -/
def impl_GraphText.l0 : Nat → ByteArray → List (S41) → Int → Int → Option (ByteArray × Bool)
 | 0, _, _, _, _ => none
 | k + 1, x4, x14, x15, x16 => if x16 < x15 then (if 0 ≤ x16 then (if x16 < (x14.length : Int) then ((strconv_Itoa.f ((rd_T41 x14 x16).f0)).bind fun t172 => (if 1 + t172.size ≤ 9223372036854775807 then (if ((⟨#[32]⟩ : ByteArray) ++ t172).size + 1 ≤ 9223372036854775807 then ((strconv_Itoa.f ((rd_T41 x14 x16).f1)).bind fun t173 => (if (((⟨#[32]⟩ : ByteArray) ++ t172) ++ (⟨#[45]⟩ : ByteArray)).size + t173.size ≤ 9223372036854775807 then (if x4.size + ((((⟨#[32]⟩ : ByteArray) ++ t172) ++ (⟨#[45]⟩ : ByteArray)) ++ t173).size ≤ 9223372036854775807 then (impl_GraphText.l0 k (x4 ++ ((((⟨#[32]⟩ : ByteArray) ++ t172) ++ (⟨#[45]⟩ : ByteArray)) ++ t173)) x14 x15 (wrap64 (x16 + 1))) else (none)) else (none))) else (none)) else (none))) else (none)) else (none)) else (some (x4, true))
def impl_GraphText.f (k : Nat) (a0_0 : Int) (l0_1 : List (S41)) : Option (ByteArray × Bool) := (impl_IsGraph.f k a0_0 l0_1).bind fun t168 => (if t168 = true then ((strconv_Itoa.f a0_0).bind fun t169 => (impl_GraphText.l0 k t169 l0_1 (l0_1.length : Int) 0)) else (some ((⟨#[]⟩ : ByteArray), false)))
def impl_GraphText.T7 : Bool × List (List Nat × List Nat) := (true, [([], []), ([], []), ([1], [1]), ([2], [2]), ([3], [3]), ([4], [4]), ([], []), ([6], [6]), ([7, 3], [7]), ([5, 8], [5, 8]), ([0, 9], [0, 9]), ([10, 8, 0, 1, 2, 3, 4, 5, 6, 7, 8, 9, 10], [0, 10])])
def impl_GraphText.B7 : List Nat := [0, 0, 2, 6, 14, 30, 0, 64, 206, 510, 1023, 2047]
theorem impl_GraphText.tab7 : rtab .any (opsOf Tryd.f8 7) = impl_GraphText.T7 := by kernel_rfl
theorem impl_GraphText.bits7 : waitsOk impl_GraphText.T7.2 impl_GraphText.B7 = true := by kernel_rfl
set_option maxHeartbeats 8000000 in
set_option maxRecDepth 100000 in
theorem impl_GraphText.calls (k : Nat) (a0_0 : Int) (A0_1 : Option Addr) (c0_1 : Nat) (l0_1 : List (S41)) (r1 : ByteArray) (r2 : Bool) (w : World) (hpow : ∀ w_ : World, Below w.heap.size w w_ → Pow w_) (hr0_1 : Kd.C k41 w A0_1 l0_1.length l0_1) (hc0_1 : l0_1.length ≤ c0_1) (h : impl_GraphText.f k a0_0 l0_1 = some (r1, r2)) :
 Calls Tryd.prog 8 #[.agg #[.int .i64 a0_0, .slice A0_1 l0_1.length c0_1]] w fun e w' => e = .returned (.tuple #[.string r1, .bool r2]) ∧ Below w.heap.size w w' := by
 have HPow := zM hpow
 clear hpow
 have hu28 := Tryd.underlying28
 have hu41 := Tryd.underlying41
 have HR0_1 := Aside0.mk hr0_1
 have HC0_1 := Aside0.mk hc0_1
 clear hr0_1 hc0_1
 have HB := zM (Below.refl w.heap.size w)
 have H : ((impl_IsGraph.f k a0_0 l0_1).bind fun t168 => (if t168 = true then ((strconv_Itoa.f a0_0).bind fun t169 => (impl_GraphText.l0 k t169 l0_1 (l0_1.length : Int) 0)) else (some ((⟨#[]⟩ : ByteArray), false)))) = some (r1, r2) := h
 clear h
 replace H := Option.bind_eq_some_iff.mp H
 obtain ⟨t168, A20, H⟩ := H
 replace H : (if t168 = true then ((strconv_Itoa.f a0_0).bind fun t169 => (impl_GraphText.l0 k t169 l0_1 (l0_1.length : Int) 0)) else (some ((⟨#[]⟩ : ByteArray), false))) = some (r1, r2) := H
 have A2 := Aside0.mk A20
 clear A20
 by_cases c3 : t168 = true
 · subst c3
   have H1 : ((strconv_Itoa.f a0_0).bind fun t169 => (impl_GraphText.l0 k t169 l0_1 (l0_1.length : Int) 0)) = some (r1, r2) := by rw [if_pos rfl] at H; exact H
   clear H
   have H := H1
   clear H1
   replace H := Option.bind_eq_some_iff.mp H
   obtain ⟨t169, A40, H⟩ := H
   replace H : (impl_GraphText.l0 k t169 l0_1 (l0_1.length : Int) 0) = some (r1, r2) := H
   have A4 := Aside0.mk A40
   clear A40
   have H' := Aside0.mk H
   clear H
   go_enter Tryd.func8, Tryd.ntmps8
   go_wp2_with (first | ((with_reducible refine gate_dst (N := 1) rfl ?_); refine zb (w := w) 1 #[.int .i64 a0_0, .slice A0_1 l0_1.length c0_1] 28 zB ?_; clear HB; intro gb167 w5 HB BK167 GW167; have GE167 := GW167; have hcz6_0 := zy BK167 0; have hcz6_1 := zy BK167 1; have hfz6_0 := blk_frozen BK167.out 0; have hfz6_1 := blk_frozen BK167.out 1) | ((with_reducible refine gate_callee (f := 18) rfl ?_); refine zc 8 Tryd.func18 #[.agg #[.int .i64 a0_0, .slice A0_1 l0_1.length c0_1]] ?_; (with_reducible refine (impl_IsGraph.calls k a0_0 _ _ l0_1 true _ ?side1 ?side2 A2.out).mono ?_); (case side1 => exact zC (Kd.C_below HR0_1.out HB.out)); (case side2 => exact HC0_1.out); rintro e w7 ⟨rfl, hb⟩; refine ⟨_, rfl, ?_⟩; replace BK167 := zM (blk_below (g := gb167) (o := .cells #[.int .i64 a0_0, .slice A0_1 l0_1.length c0_1] 28 (0, 0)) (zK BK167.out) hb); replace HB := zM (below_step zB hb); (try clear hb); (try clear hb2); (try clear hk); (try clear hi); have hcz8_0 := zy BK167 0; have hcz8_1 := zy BK167 1; have hfz8_0 := blk_frozen BK167.out 0; have hfz8_1 := blk_frozen BK167.out 1) | ((with_reducible refine gate_callee (f := 19) rfl ?_); refine zc 12 Tryd.func19 #[.int .i64 a0_0] ?_; (with_reducible refine (strconv_Itoa.calls a0_0 t169 _ (HPow.out _ zB) A4.out).mono ?_); rintro e w9 ⟨rfl, hb⟩; refine ⟨_, rfl, ?_⟩; replace BK167 := zM (blk_below (g := gb167) (o := .cells #[.int .i64 a0_0, .slice A0_1 l0_1.length c0_1] 28 (0, 0)) (zK BK167.out) hb); replace HB := zM (below_step zB hb); (try clear hb); (try clear hb2); (try clear hk); (try clear hi); have hcz10_0 := zy BK167 0; have hcz10_1 := zy BK167 1; have hfz10_0 := blk_frozen BK167.out 0; have hfz10_1 := blk_frozen BK167.out 1))
   go_loopg [4, 16] k (fun kq v4 v16 w' => ∃ (x4_1 : ByteArray) (x16_1 : Int), v4 = .string x4_1 ∧ v16 = .int .i64 x16_1 ∧ Aside0 (impl_GraphText.l0 kq x4_1 l0_1 (l0_1.length : Int) x16_1 = some (r1, r2)) ∧ Aside0 (kq ≤ k) ∧ Aside0 (w'.heap[gb167]? = some (.cells #[.int .i64 a0_0, (.slice A0_1 l0_1.length c0_1)] 28 (0, 0))) ∧ Aside0 (Below w.heap.size w w'))
   case atStart => exact ⟨(t169), (0), (by first | rfl | (simp; done) | (simp [*]; done)), (by first | rfl | (simp; done) | (simp [*]; done)), H', ⟨Nat.le_refl _⟩, ⟨zK BK167.out⟩, ⟨zB⟩⟩
   case round =>
    clear H'
    try clear c1
    try clear p2
    try clear c3
    try clear c8
    try clear hcz10_0
    try clear hcz10_1
    try clear hcz6_0
    try clear hcz6_1
    try clear hcz8_0
    try clear hcz8_1
    try clear hfz10_0
    try clear hfz10_1
    try clear hfz6_0
    try clear hfz6_1
    try clear hfz8_0
    try clear hfz8_1
    obtain ⟨x4_1, x16_1, rfl, rfl, HA, HK1, BK167, HB⟩ := hrel
    cases gk with
    | zero => exact absurd HA.out (by simp [impl_GraphText.l0])
    | succ k1 =>
     have H := HA.out
     clear HA
     simp only [impl_GraphText.l0] at H
     by_cases c11 : x16_1 < (l0_1.length : Int)
     · rw [if_pos c11] at H
       have c11b0 := decide_eq_true c11
       clear c11
       by_cases c12 : 0 ≤ x16_1
       · rw [if_pos c12] at H
         have c12b0 := decide_eq_true c12
         clear c12
         by_cases c13 : x16_1 < (l0_1.length : Int)
         · rw [if_pos c13] at H
           have c13b0 := decide_eq_true c13
           clear c13
           replace H := Option.bind_eq_some_iff.mp H
           obtain ⟨t172, A140, H⟩ := H
           replace H : (if 1 + t172.size ≤ 9223372036854775807 then (if ((⟨#[32]⟩ : ByteArray) ++ t172).size + 1 ≤ 9223372036854775807 then ((strconv_Itoa.f ((rd_T41 l0_1 x16_1).f1)).bind fun t173 => (if (((⟨#[32]⟩ : ByteArray) ++ t172) ++ (⟨#[45]⟩ : ByteArray)).size + t173.size ≤ 9223372036854775807 then (if x4_1.size + ((((⟨#[32]⟩ : ByteArray) ++ t172) ++ (⟨#[45]⟩ : ByteArray)) ++ t173).size ≤ 9223372036854775807 then (impl_GraphText.l0 k1 (x4_1 ++ ((((⟨#[32]⟩ : ByteArray) ++ t172) ++ (⟨#[45]⟩ : ByteArray)) ++ t173)) l0_1 (l0_1.length : Int) (wrap64 (x16_1 + 1))) else (none)) else (none))) else (none)) else (none)) = some (r1, r2) := H
           have A14 := Aside0.mk A140
           clear A140
           by_cases c15 : 1 + t172.size ≤ 9223372036854775807
           · rw [if_pos c15] at H
             have c15b0 := eq_true c15
             have c15b1 : decide (1 + t172.size ≤ 9223372036854775807) = true := decide_eq_true c15
             try have c15b2 : (9223372036854775807 < 1 + t172.size) = False := eq_false (Nat.not_lt.2 c15)
             by_cases c16 : ((⟨#[32]⟩ : ByteArray) ++ t172).size + 1 ≤ 9223372036854775807
             · rw [if_pos c16] at H
               have c16b0 := eq_true c16
               have c16b1 : decide (((⟨#[32]⟩ : ByteArray) ++ t172).size + 1 ≤ 9223372036854775807) = true := decide_eq_true c16
               try have c16b2 : (9223372036854775807 < ((⟨#[32]⟩ : ByteArray) ++ t172).size + 1) = False := eq_false (Nat.not_lt.2 c16)
               have c16b9 : (9223372036854775807 < 1 + t172.size + 1) = False := eq_false (by have h_ := c16; simp only [ByteArray.size_append, show (⟨#[32]⟩ : ByteArray).size = 1 from rfl, show (⟨#[35]⟩ : ByteArray).size = 1 from rfl, show (⟨#[45]⟩ : ByteArray).size = 1 from rfl] at h_; omega)
               replace H := Option.bind_eq_some_iff.mp H
               obtain ⟨t173, A170, H⟩ := H
               replace H : (if (((⟨#[32]⟩ : ByteArray) ++ t172) ++ (⟨#[45]⟩ : ByteArray)).size + t173.size ≤ 9223372036854775807 then (if x4_1.size + ((((⟨#[32]⟩ : ByteArray) ++ t172) ++ (⟨#[45]⟩ : ByteArray)) ++ t173).size ≤ 9223372036854775807 then (impl_GraphText.l0 k1 (x4_1 ++ ((((⟨#[32]⟩ : ByteArray) ++ t172) ++ (⟨#[45]⟩ : ByteArray)) ++ t173)) l0_1 (l0_1.length : Int) (wrap64 (x16_1 + 1))) else (none)) else (none)) = some (r1, r2) := H
               have A17 := Aside0.mk A170
               clear A170
               by_cases c18 : (((⟨#[32]⟩ : ByteArray) ++ t172) ++ (⟨#[45]⟩ : ByteArray)).size + t173.size ≤ 9223372036854775807
               · rw [if_pos c18] at H
                 have c18b0 := eq_true c18
                 have c18b1 : decide ((((⟨#[32]⟩ : ByteArray) ++ t172) ++ (⟨#[45]⟩ : ByteArray)).size + t173.size ≤ 9223372036854775807) = true := decide_eq_true c18
                 try have c18b2 : (9223372036854775807 < (((⟨#[32]⟩ : ByteArray) ++ t172) ++ (⟨#[45]⟩ : ByteArray)).size + t173.size) = False := eq_false (Nat.not_lt.2 c18)
                 have c18b9 : (9223372036854775807 < 1 + t172.size + 1 + t173.size) = False := eq_false (by have h_ := c18; simp only [ByteArray.size_append, show (⟨#[32]⟩ : ByteArray).size = 1 from rfl, show (⟨#[35]⟩ : ByteArray).size = 1 from rfl, show (⟨#[45]⟩ : ByteArray).size = 1 from rfl] at h_; omega)
                 by_cases c19 : x4_1.size + ((((⟨#[32]⟩ : ByteArray) ++ t172) ++ (⟨#[45]⟩ : ByteArray)) ++ t173).size ≤ 9223372036854775807
                 · rw [if_pos c19] at H
                   have c19b0 := eq_true c19
                   have c19b1 : decide (x4_1.size + ((((⟨#[32]⟩ : ByteArray) ++ t172) ++ (⟨#[45]⟩ : ByteArray)) ++ t173).size ≤ 9223372036854775807) = true := decide_eq_true c19
                   try have c19b2 : (9223372036854775807 < x4_1.size + ((((⟨#[32]⟩ : ByteArray) ++ t172) ++ (⟨#[45]⟩ : ByteArray)) ++ t173).size) = False := eq_false (Nat.not_lt.2 c19)
                   have c19b9 : (9223372036854775807 < x4_1.size + (1 + t172.size + 1 + t173.size)) = False := eq_false (by have h_ := c19; simp only [ByteArray.size_append, show (⟨#[32]⟩ : ByteArray).size = 1 from rfl, show (⟨#[35]⟩ : ByteArray).size = 1 from rfl, show (⟨#[45]⟩ : ByteArray).size = 1 from rfl] at h_; omega)
                   have H' := Aside0.mk H
                   clear H
                   have p170 : 0 ≤ (x16_1 : Int) := of_decide_eq_true zA
                   have q170 : x16_1 < (l0_1.length : Int) := of_decide_eq_true zA
                   obtain ⟨ad170, e170, hx170_0, hx170_1⟩ := at_T41 HR0_1.out x16_1 p170 q170
                   cases e170
                   (try replace hx170_0 := (HB.out.cell (World.block_lt_of_cell? w _ hx170_0)).trans hx170_0)
                   (try replace hx170_1 := (HB.out.cell (World.block_lt_of_cell? w _ hx170_1)).trans hx170_1)
                   replace p170 := eq_true p170
                   replace q170 := eq_true q170
                   try go_wp2_with (first | ((with_reducible refine gate_dst (N := 6) rfl ?_); refine ze 6 #[.int .i64 0, .int .i64 0] 41 ?_; intro gb171 hg w20 hbox hb; have BK171 := zM (hbox); have GW171 := zM ((by rw [hg]; exact (below_size zB) : w.heap.size ≤ gb171)); have GE171 := zM ((by rw [hg]; exact (below_size zB) : w.heap.size ≤ gb171)); replace HB := zM (below_step zB hb); have NB167_171 := zM ((by rw [hg]; exact Nat.ne_of_lt (blk_lt (g := gb167) (o := .cells #[.int .i64 a0_0, .slice (some ad170) l0_1.length c0_1] 28 (0, 0)) (zK BK167.out)) : gb167 ≠ gb171)); have NB171_167 := zM ((by rw [hg]; exact Nat.ne_of_gt (blk_lt (g := gb167) (o := .cells #[.int .i64 a0_0, .slice (some ad170) l0_1.length c0_1] 28 (0, 0)) (zK BK167.out)) : gb171 ≠ gb167)); replace BK167 := zM (blk_below (g := gb167) (o := .cells #[.int .i64 a0_0, .slice (some ad170) l0_1.length c0_1] 28 (0, 0)) (zK BK167.out) hb); clear hb hbox hg; have hnb21 := NB171_167.out; have hnc21 := NB167_171.out; have hcz22_0 := zy BK171 0; have hcz22_1 := zy BK171 1; have hfz22_0 := blk_frozen BK171.out 0; have hfz22_1 := blk_frozen BK171.out 1))
                   have n0_ : Aside0 (((w20.setCell ⟨gb171, 0, none⟩ (.int .i64 ((rd_T41 l0_1 x16_1).f0))).setCell ⟨gb171, 1, none⟩ (.int .i64 ((rd_T41 l0_1 x16_1).f1))).heap[gb167]? = some (.cells #[.int .i64 a0_0, .slice (some ad170) l0_1.length c0_1] 28 (0, 0))) := ⟨by (with_reducible repeat (first | refine blk_drewN ?_ _ | refine blk_drew ?_ | refine blk_alloc ?_ _)); refine blk_far ?_ NB167_171.out _; (with_reducible repeat (first | refine blk_drewN ?_ _ | refine blk_drew ?_ | refine blk_alloc ?_ _)); refine blk_far ?_ NB167_171.out _; (with_reducible repeat (first | refine blk_drewN ?_ _ | refine blk_drew ?_ | refine blk_alloc ?_ _)); exact BK167.out⟩
                   have n1_ : Aside0 (((w20.setCell ⟨gb171, 0, none⟩ (.int .i64 ((rd_T41 l0_1 x16_1).f0))).setCell ⟨gb171, 1, none⟩ (.int .i64 ((rd_T41 l0_1 x16_1).f1))).heap[gb171]? = some (.cells #[.int .i64 ((rd_T41 l0_1 x16_1).f0), .int .i64 ((rd_T41 l0_1 x16_1).f1)] 41 (0, 0))) := ⟨by (with_reducible repeat (first | refine blk_drewN ?_ _ | refine blk_drew ?_ | refine blk_alloc ?_ _)); refine blk_put (cs := #[.int .i64 ((rd_T41 l0_1 x16_1).f0), .int .i64 0]) ?_ 1 _ rfl; (with_reducible repeat (first | refine blk_drewN ?_ _ | refine blk_drew ?_ | refine blk_alloc ?_ _)); refine blk_put (cs := #[.int .i64 0, .int .i64 0]) ?_ 0 _ rfl; (with_reducible repeat (first | refine blk_drewN ?_ _ | refine blk_drew ?_ | refine blk_alloc ?_ _)); exact BK171.out⟩
                   have n2_ : Aside0 (Below w.heap.size w ((w20.setCell ⟨gb171, 0, none⟩ (.int .i64 ((rd_T41 l0_1 x16_1).f0))).setCell ⟨gb171, 1, none⟩ (.int .i64 ((rd_T41 l0_1 x16_1).f1)))) := ⟨zB⟩
                   (try clear BK167)
                   (try clear BK171)
                   (try clear HB)
                   generalize ((w20.setCell ⟨gb171, 0, none⟩ (.int .i64 ((rd_T41 l0_1 x16_1).f0))).setCell ⟨gb171, 1, none⟩ (.int .i64 ((rd_T41 l0_1 x16_1).f1))) = w23 at n0_ n1_ n2_ ⊢
                   have BK167 := n0_
                   have BK171 := n1_
                   have HB := n2_
                   clear n0_ n1_ n2_
                   replace BK167 := zM (blk_drew BK167.out)
                   replace BK171 := zM (blk_drew BK171.out)
                   replace HB := zM (below_drew1 HB.out)
                   refine zs (n := 12) (fun w' => w'.cell? ⟨gb171, 0, none⟩ = some (.int .i64 ((rd_T41 l0_1 x16_1).f0)) ∧ w'.cell? ⟨gb171, 1, none⟩ = some (.int .i64 ((rd_T41 l0_1 x16_1).f1))) ⟨(blk_cell BK171.out 0).trans rfl, (blk_cell BK171.out 1).trans rfl⟩ (fun hHeld => ?_); refine with_tabW impl_GraphText.tab7 impl_GraphText.bits7 (fun HT_ HW_ => ?_)
                   generalize w23.drew = w24 at BK167 BK171 HB hHeld ⊢
                   refine zp HT_ 0 20 ?_
                   refine zp HT_ 1 21 ?_
                   refine zp HT_ 6 26 ?_
                   refine zt HT_ HW_ 2 22 hHeld ?_ (hy := by rintro w' ⟨s0, s1⟩; go_simp; with_reducible rfl)
                   refine zt HT_ HW_ 7 27 hHeld ?_ (hy := by rintro w' ⟨s0, s1⟩; go_simp; with_reducible rfl)
                   refine zg HT_ 3 23 Tryd.func19 #[.int .i64 ((rd_T41 l0_1 x16_1).f0)] (fun K hK => ?_)
                   with_reducible refine (strconv_Itoa.calls ((rd_T41 l0_1 x16_1).f0) t172 _ (HPow.out _ zB) A14.out).mono ?_
                   rintro e w25 ⟨rfl, hb⟩
                   refine ⟨_, rfl, ?_⟩
                   replace BK167 := zM (blk_below (g := gb167) (o := .cells #[.int .i64 a0_0, .slice (some ad170) l0_1.length c0_1] 28 (0, 0)) (zK BK167.out) hb)
                   replace BK171 := zM (blk_below (g := gb171) (o := .cells #[.int .i64 ((rd_T41 l0_1 x16_1).f0), .int .i64 ((rd_T41 l0_1 x16_1).f1)] 41 (0, 0)) (zK BK171.out) hb)
                   replace HB := zM (below_step zB hb)
                   (try clear hb)
                   (try clear hb2)
                   (try clear hk)
                   (try clear hi)
                   refine hK.out _ _ ⟨(blk_cell BK171.out 0).trans rfl, (blk_cell BK171.out 1).trans rfl⟩ (fun hHeld => ?_)
                   clear hK K
                   refine zn 23 ?_
                   refine zp HT_ 4 24 ?_
                   refine zp HT_ 5 25 ?_
                   refine zg HT_ 8 28 Tryd.func19 #[.int .i64 ((rd_T41 l0_1 x16_1).f1)] (fun K hK => ?_)
                   with_reducible refine (strconv_Itoa.calls ((rd_T41 l0_1 x16_1).f1) t173 _ (HPow.out _ zB) A17.out).mono ?_
                   rintro e w26 ⟨rfl, hb⟩
                   refine ⟨_, rfl, ?_⟩
                   replace BK167 := zM (blk_below (g := gb167) (o := .cells #[.int .i64 a0_0, .slice (some ad170) l0_1.length c0_1] 28 (0, 0)) (zK BK167.out) hb)
                   replace BK171 := zM (blk_below (g := gb171) (o := .cells #[.int .i64 ((rd_T41 l0_1 x16_1).f0), .int .i64 ((rd_T41 l0_1 x16_1).f1)] 41 (0, 0)) (zK BK171.out) hb)
                   replace HB := zM (below_step zB hb)
                   (try clear hb)
                   (try clear hb2)
                   (try clear hk)
                   (try clear hi)
                   refine hK.out _ _ ⟨(blk_cell BK171.out 0).trans rfl, (blk_cell BK171.out 1).trans rfl⟩ (fun hHeld => ?_)
                   clear hK K
                   refine zn 28 ?_
                   refine zp HT_ 9 29 ?_
                   refine zp HT_ 10 30 ?_
                   refine zp HT_ 11 4 ?_
                   refine zo HT_ ?_
                   try go_wp2
                   go_roundg k1
                   case measure => have := HK1.out; omega
                   case rel => exact ⟨(x4_1 ++ ((((⟨#[32]⟩ : ByteArray) ++ t172) ++ (⟨#[45]⟩ : ByteArray)) ++ t173)), (wrap64 (x16_1 + 1)), (by first | rfl | (simp; done) | (simp [*]; done)), (by first | rfl | (simp; done) | (simp [*]; done)), H', ⟨by have := HK1.out; omega⟩, ⟨zK BK167.out⟩, ⟨zB⟩⟩
                 · rw [if_neg c19] at H
                   exact absurd H (by simp)
               · rw [if_neg c18] at H
                 exact absurd H (by simp)
             · rw [if_neg c16] at H
               exact absurd H (by simp)
           · rw [if_neg c15] at H
             exact absurd H (by simp)
         · rw [if_neg c13] at H
           exact absurd H (by simp)
       · rw [if_neg c12] at H
         exact absurd H (by simp)
     · rw [if_neg c11] at H
       have c11b0 : decide (x16_1 < (l0_1.length : Int)) = false := decide_eq_false c11
       clear c11
       simp only [Option.some.injEq, Prod.mk.injEq] at H
       obtain ⟨rfl, rfl⟩ := H
       go_wp2
       go_ret2
       exact ⟨by first | rfl | (simp [errW_none, errW_some] <;> rfl) | (simp [*, errW_none, errW_some] <;> rfl), zB⟩
 · replace c3 := Bool.eq_false_iff.mpr c3
   subst c3
   have H1 : (some ((⟨#[]⟩ : ByteArray), false)) = some (r1, r2) := by rw [if_neg (show ¬ (false = true) by decide)] at H; exact H
   clear H
   have H := H1
   clear H1
   simp only [Option.some.injEq, Prod.mk.injEq] at H
   obtain ⟨rfl, rfl⟩ := H
   go_enter Tryd.func8, Tryd.ntmps8
   go_wp2_with (first | ((with_reducible refine gate_dst (N := 1) rfl ?_); refine zb (w := w) 1 #[.int .i64 a0_0, .slice A0_1 l0_1.length c0_1] 28 zB ?_; clear HB; intro gb167 w27 HB BK167 GW167; have GE167 := GW167; have hcz28_0 := zy BK167 0; have hcz28_1 := zy BK167 1; have hfz28_0 := blk_frozen BK167.out 0; have hfz28_1 := blk_frozen BK167.out 1) | ((with_reducible refine gate_callee (f := 18) rfl ?_); refine zc 8 Tryd.func18 #[.agg #[.int .i64 a0_0, .slice A0_1 l0_1.length c0_1]] ?_; (with_reducible refine (impl_IsGraph.calls k a0_0 _ _ l0_1 false _ ?side1 ?side2 A2.out).mono ?_); (case side1 => exact zC (Kd.C_below HR0_1.out HB.out)); (case side2 => exact HC0_1.out); rintro e w29 ⟨rfl, hb⟩; refine ⟨_, rfl, ?_⟩; replace BK167 := zM (blk_below (g := gb167) (o := .cells #[.int .i64 a0_0, .slice A0_1 l0_1.length c0_1] 28 (0, 0)) (zK BK167.out) hb); replace HB := zM (below_step zB hb); (try clear hb); (try clear hb2); (try clear hk); (try clear hi)))
   go_ret2
   exact ⟨by first | rfl | (simp [errW_none, errW_some] <;> rfl) | (simp [*, errW_none, errW_some] <;> rfl), zB⟩

/-! ### laws_FnExactGraphText: function 3 -/
def laws_FnExactGraphText.j0 : Nat → Bool → Int → List (S41) → Int → List (S41) → Option (Bool)
 | 0, _, _, _, _, _ => none
 | k + 1, x34, x175000, x175001, x187000, x187001 => if x34 = true then (some false) else ((laws_toGraph.f k x175000 x175001).bind fun bt189 => ((laws_eqGraph.f k x187000 x187001 bt189.1 bt189.2).bind fun t193 => (if t193 = true then (some true) else (some false))))
def laws_FnExactGraphText.f (k : Nat) (a0_0 : Int) (l0_1 : List (S41)) : Option (Bool) := (laws_szGraph.f a0_0 l0_1 1048576).bind fun t175 => (if t175 < 0 then (some true) else ((laws_toGraph.f k a0_0 l0_1).bind fun bt176 => ((spec_GraphText.f k bt176.1 bt176.2).bind fun bt180 => ((laws_toGraph.f k a0_0 l0_1).bind fun bt182 => ((impl_GraphText.f k bt182.1 bt182.2).bind fun bt187 => (if bt187.1.toList = bt180.1.toList then (laws_FnExactGraphText.j0 k (bt187.2 != bt180.2) a0_0 l0_1 bt182.1 bt182.2) else (laws_FnExactGraphText.j0 k true a0_0 l0_1 bt182.1 bt182.2)))))))
set_option maxHeartbeats 8000000 in
set_option maxRecDepth 100000 in
theorem laws_FnExactGraphText.calls (k : Nat) (a0_0 : Int) (A0_1 : Option Addr) (c0_1 : Nat) (l0_1 : List (S41)) (r : Bool) (w : World) (hpow : ∀ w_ : World, Below w.heap.size w w_ → Pow w_) (hr0_1 : Kd.C k41 w A0_1 l0_1.length l0_1) (hc0_1 : l0_1.length ≤ c0_1) (h : laws_FnExactGraphText.f k a0_0 l0_1 = some r) :
 Calls Tryd.prog 3 #[.agg #[.int .i64 a0_0, .slice A0_1 l0_1.length c0_1]] w fun e w' => e = .returned (.bool r) ∧ Below w.heap.size w w' := by
 have HPow := zM hpow
 clear hpow
 have hu24 := Tryd.underlying24
 have hu28 := Tryd.underlying28
 have HR0_1 := Aside0.mk hr0_1
 have HC0_1 := Aside0.mk hc0_1
 clear hr0_1 hc0_1
 have HB := zM (Below.refl w.heap.size w)
 have H : ((laws_szGraph.f a0_0 l0_1 1048576).bind fun t175 => (if t175 < 0 then (some true) else ((laws_toGraph.f k a0_0 l0_1).bind fun bt176 => ((spec_GraphText.f k bt176.1 bt176.2).bind fun bt180 => ((laws_toGraph.f k a0_0 l0_1).bind fun bt182 => ((impl_GraphText.f k bt182.1 bt182.2).bind fun bt187 => (if bt187.1.toList = bt180.1.toList then (laws_FnExactGraphText.j0 k (bt187.2 != bt180.2) a0_0 l0_1 bt182.1 bt182.2) else (laws_FnExactGraphText.j0 k true a0_0 l0_1 bt182.1 bt182.2)))))))) = some r := h
 clear h
 replace H := Option.bind_eq_some_iff.mp H
 obtain ⟨t175, A20, H⟩ := H
 have A2 := Aside0.mk A20
 clear A20
 by_cases c3 : t175 < 0
 · rw [if_pos c3] at H
   have c3b0 := decide_eq_true c3
   clear c3
   obtain rfl := Option.some.inj H
   go_enter Tryd.func3, Tryd.ntmps3
   go_wp2_with (first | ((with_reducible refine gate_dst (N := 1) rfl ?_); refine zb (w := w) 1 #[.int .i64 a0_0, .slice A0_1 l0_1.length c0_1] 24 zB ?_; clear HB; intro gb174 w4 HB BK174 GW174; have GE174 := GW174; have hcz5_0 := zy BK174 0; have hcz5_1 := zy BK174 1; have hfz5_0 := blk_frozen BK174.out 0; have hfz5_1 := blk_frozen BK174.out 1) | ((with_reducible refine gate_callee (f := 5) rfl ?_); refine zc 11 Tryd.func5 #[.agg #[.int .i64 a0_0, .slice A0_1 l0_1.length c0_1], .int .i64 1048576] ?_; (with_reducible refine (laws_szGraph.calls a0_0 _ _ l0_1 1048576 t175 _ ?side1 ?side2 A2.out).mono ?_); (case side1 => exact zC (Kd.C_below HR0_1.out HB.out)); (case side2 => exact HC0_1.out); rintro e w6 ⟨rfl, hb⟩; refine ⟨_, rfl, ?_⟩; replace BK174 := zM (blk_below (g := gb174) (o := .cells #[.int .i64 a0_0, .slice A0_1 l0_1.length c0_1] 24 (0, 0)) (zK BK174.out) hb); replace HB := zM (below_step zB hb); (try clear hb); (try clear hb2); (try clear hk); (try clear hi)))
   go_ret
   exact ⟨by first | rfl | (simp [errW_none, errW_some] <;> rfl) | (simp [*, errW_none, errW_some] <;> rfl), zB⟩
 · rw [if_neg c3] at H
   have c3b0 : decide (t175 < 0) = false := decide_eq_false c3
   clear c3
   replace H := Option.bind_eq_some_iff.mp H
   obtain ⟨⟨t176, t177⟩, A70, H⟩ := H
   replace H : ((spec_GraphText.f k t176 t177).bind fun bt180 => ((laws_toGraph.f k a0_0 l0_1).bind fun bt182 => ((impl_GraphText.f k bt182.1 bt182.2).bind fun bt187 => (if bt187.1.toList = bt180.1.toList then (laws_FnExactGraphText.j0 k (bt187.2 != bt180.2) a0_0 l0_1 bt182.1 bt182.2) else (laws_FnExactGraphText.j0 k true a0_0 l0_1 bt182.1 bt182.2))))) = some r := H
   have A7 := Aside0.mk A70
   clear A70
   replace H := Option.bind_eq_some_iff.mp H
   obtain ⟨⟨t180, t181⟩, A80, H⟩ := H
   replace H : ((laws_toGraph.f k a0_0 l0_1).bind fun bt182 => ((impl_GraphText.f k bt182.1 bt182.2).bind fun bt187 => (if bt187.1.toList = t180.toList then (laws_FnExactGraphText.j0 k (bt187.2 != t181) a0_0 l0_1 bt182.1 bt182.2) else (laws_FnExactGraphText.j0 k true a0_0 l0_1 bt182.1 bt182.2)))) = some r := H
   have A8 := Aside0.mk A80
   clear A80
   replace H := Option.bind_eq_some_iff.mp H
   obtain ⟨⟨t182, t183⟩, A90, H⟩ := H
   replace H : ((impl_GraphText.f k t182 t183).bind fun bt187 => (if bt187.1.toList = t180.toList then (laws_FnExactGraphText.j0 k (bt187.2 != t181) a0_0 l0_1 t182 t183) else (laws_FnExactGraphText.j0 k true a0_0 l0_1 t182 t183))) = some r := H
   have A9 := Aside0.mk A90
   clear A90
   replace H := Option.bind_eq_some_iff.mp H
   obtain ⟨⟨t187, t188⟩, A100, H⟩ := H
   replace H : (if t187.toList = t180.toList then (laws_FnExactGraphText.j0 k (t188 != t181) a0_0 l0_1 t182 t183) else (laws_FnExactGraphText.j0 k true a0_0 l0_1 t182 t183)) = some r := H
   have A10 := Aside0.mk A100
   clear A100
   have HC11 := Aside0.mk H
   clear H
   go_enter Tryd.func3, Tryd.ntmps3
   go_upto_region 8 with (first | ((with_reducible refine gate_dst (N := 1) rfl ?_); refine zb (w := w) 1 #[.int .i64 a0_0, .slice A0_1 l0_1.length c0_1] 24 zB ?_; clear HB; intro gb174 w12 HB BK174 GW174; have GE174 := GW174; have hcz13_0 := zy BK174 0; have hcz13_1 := zy BK174 1; have hfz13_0 := blk_frozen BK174.out 0; have hfz13_1 := blk_frozen BK174.out 1) | ((with_reducible refine gate_callee (f := 5) rfl ?_); refine zc 11 Tryd.func5 #[.agg #[.int .i64 a0_0, .slice A0_1 l0_1.length c0_1], .int .i64 1048576] ?_; (with_reducible refine (laws_szGraph.calls a0_0 _ _ l0_1 1048576 t175 _ ?side1 ?side2 A2.out).mono ?_); (case side1 => exact zC (Kd.C_below HR0_1.out HB.out)); (case side2 => exact HC0_1.out); rintro e w14 ⟨rfl, hb⟩; refine ⟨_, rfl, ?_⟩; replace BK174 := zM (blk_below (g := gb174) (o := .cells #[.int .i64 a0_0, .slice A0_1 l0_1.length c0_1] 24 (0, 0)) (zK BK174.out) hb); replace HB := zM (below_step zB hb); (try clear hb); (try clear hb2); (try clear hk); (try clear hi); have hcz15_0 := zy BK174 0; have hcz15_1 := zy BK174 1; have hfz15_0 := blk_frozen BK174.out 0; have hfz15_1 := blk_frozen BK174.out 1) | ((with_reducible refine gate_callee (f := 7) rfl ?_); refine zc 16 Tryd.func7 #[.agg #[.int .i64 a0_0, .slice A0_1 l0_1.length c0_1]] ?_; (with_reducible refine (laws_toGraph.calls k a0_0 _ _ l0_1 t176 t177 _ ?side1 ?side2 A7.out).mono ?_); (case side1 => exact zC (Kd.C_below HR0_1.out HB.out)); (case side2 => exact HC0_1.out); rintro e w16 ⟨v178, rfl, ho0, hb⟩; refine ⟨_, rfl, ?_⟩; have HO179 := zM (Kd.R_lower ho0 (below_size zB)); replace BK174 := zM (blk_below (g := gb174) (o := .cells #[.int .i64 a0_0, .slice A0_1 l0_1.length c0_1] 24 (0, 0)) (zK BK174.out) hb); replace HB := zM (below_step zB hb); (try clear hb); (try clear hb2); (try clear hk); (try clear hi); (try clear ho0); obtain ⟨Ao17, co17, eo17⟩ := Kd.R_slice HO179.out; subst eo17) | ((with_reducible refine gate_callee (f := 6) rfl ?_); refine zc 17 Tryd.func6 #[.agg #[.int .i64 t176, .slice Ao17 t177.length co17]] ?_; (with_reducible refine (spec_GraphText.calls k t176 _ _ t177 t180 t181 _ ?side1 ?side2 A8.out).mono ?_); (case side1 => exact zC (Kd.R_reads' HO179.out).2.2); (case side2 => exact (Kd.R_reads' HO179.out).2.1); rintro e w18 ⟨rfl, hb⟩; refine ⟨_, rfl, ?_⟩; replace HO179 := zM (Kd.R_below (zR HO179.out) hb); replace BK174 := zM (blk_below (g := gb174) (o := .cells #[.int .i64 a0_0, .slice A0_1 l0_1.length c0_1] 24 (0, 0)) (zK BK174.out) hb); replace HB := zM (below_step zB hb); (try clear hb); (try clear hb2); (try clear hk); (try clear hi); have hcz19_0 := zy BK174 0; have hcz19_1 := zy BK174 1; have hfz19_0 := blk_frozen BK174.out 0; have hfz19_1 := blk_frozen BK174.out 1) | ((with_reducible refine gate_callee (f := 7) rfl ?_); refine zc 21 Tryd.func7 #[.agg #[.int .i64 a0_0, .slice A0_1 l0_1.length c0_1]] ?_; (with_reducible refine (laws_toGraph.calls k a0_0 _ _ l0_1 t182 t183 _ ?side1 ?side2 A9.out).mono ?_); (case side1 => exact zC (Kd.C_below HR0_1.out HB.out)); (case side2 => exact HC0_1.out); rintro e w20 ⟨v184, rfl, ho0, hb⟩; refine ⟨_, rfl, ?_⟩; have HO185 := zM (Kd.R_lower (Kd.R_new' ho0 (Kd.R_lt (zR HO179.out))) (below_size zB)); replace HO179 := zM (Kd.R_elder' (zR HO179.out) (Kd.R_base ho0) hb); replace BK174 := zM (blk_below (g := gb174) (o := .cells #[.int .i64 a0_0, .slice A0_1 l0_1.length c0_1] 24 (0, 0)) (zK BK174.out) hb); replace HB := zM (below_step zB hb); (try clear hb); (try clear hb2); (try clear hk); (try clear hi); (try clear ho0)) | ((with_reducible refine gate_dst (N := 6) rfl ?_); refine ze 6 #[.int .i64 0, .slice none 0 0] 28 ?_; intro gb186 hg w21 hbox hb; replace HO179 := zM (Kd.R_below (zR HO179.out) hb); replace HO185 := zM (Kd.R_below (zR HO185.out) hb); have BK186 := zM (hbox); have GW186 := zM ((by rw [hg]; exact (below_size zB) : w.heap.size ≤ gb186)); have GE186 := zM ((by rw [hg]; exact (below_size zB) : w.heap.size ≤ gb186)); replace HB := zM (below_step zB hb); have NB174_186 := zM ((by rw [hg]; exact Nat.ne_of_lt (blk_lt (g := gb174) (o := .cells #[.int .i64 a0_0, .slice A0_1 l0_1.length c0_1] 24 (0, 0)) (zK BK174.out)) : gb174 ≠ gb186)); have NB186_174 := zM ((by rw [hg]; exact Nat.ne_of_gt (blk_lt (g := gb174) (o := .cells #[.int .i64 a0_0, .slice A0_1 l0_1.length c0_1] 24 (0, 0)) (zK BK174.out)) : gb186 ≠ gb174)); replace BK174 := zM (blk_below (g := gb174) (o := .cells #[.int .i64 a0_0, .slice A0_1 l0_1.length c0_1] 24 (0, 0)) (zK BK174.out) hb); clear hb hbox hg; have hnb22 := NB186_174.out; have hnc22 := NB174_186.out; have hcz23_0 := zy BK186 0; have hcz23_1 := zy BK186 1; have hfz23_0 := blk_frozen BK186.out 0; have hfz23_1 := blk_frozen BK186.out 1; obtain ⟨Ao24, co24, eo24⟩ := Kd.R_slice HO185.out; subst eo24) | ((with_reducible refine gate_callee (f := 8) rfl ?_); refine zc 24 Tryd.func8 #[.agg #[.int .i64 t182, .slice Ao24 t183.length co24]] ?_; (with_reducible refine (impl_GraphText.calls k t182 _ _ t183 t187 t188 _ (fun w_ hb_ => HPow.out w_ (below_step zB hb_)) ?side1 ?side2 A10.out).mono ?_); (case side1 => refine (Kd.R_reads' (e := 41) (base := w.heap.size) (ok := fun k_ => (True ∧ some k_ ≠ (.slice Ao17 t177.length co17 : Value).ownBlock)) (n := t183.length) (c := co24) ?_).2.2; exact (by (with_reducible repeat (first | apply Kd.R_alloc | apply Kd.R_drewN | apply Kd.R_drew)); exact (Kd.R_mono (Kd.R_far (p := ⟨gb186, 1, none⟩) (Kd.R_far (p := ⟨gb186, 0, none⟩) (Kd.R_types HO185.out BK186.out (by decide)) (fun _ hk => hk.2) (.int .i64 t182)) (fun _ hk => hk.2) (.slice Ao24 t183.length co24)) (fun _ h_ => h_.1)))); (case side2 => exact (Kd.R_reads' HO185.out).2.1); rintro e w25 ⟨rfl, hb⟩; refine ⟨_, rfl, ?_⟩; replace HO179 := zM (Kd.R_below (by (with_reducible repeat (first | apply Kd.R_alloc | apply Kd.R_drewN | apply Kd.R_drew)); exact (Kd.R_mono (Kd.R_far (p := ⟨gb186, 1, none⟩) (Kd.R_far (p := ⟨gb186, 0, none⟩) (Kd.R_types HO179.out BK186.out (by decide)) (fun _ hk => hk.2) (.int .i64 t182)) (fun _ hk => hk.2) (.slice Ao24 t183.length co24)) (fun _ h_ => h_.1))) hb); replace HO185 := zM (Kd.R_below (by (with_reducible repeat (first | apply Kd.R_alloc | apply Kd.R_drewN | apply Kd.R_drew)); exact (Kd.R_mono (Kd.R_far (p := ⟨gb186, 1, none⟩) (Kd.R_far (p := ⟨gb186, 0, none⟩) (Kd.R_types HO185.out BK186.out (by decide)) (fun _ hk => hk.2) (.int .i64 t182)) (fun _ hk => hk.2) (.slice Ao24 t183.length co24)) (fun _ h_ => h_.1))) hb); replace BK174 := zM (blk_below (g := gb174) (o := .cells #[.int .i64 a0_0, .slice A0_1 l0_1.length c0_1] 24 (0, 0)) (by (with_reducible repeat (first | refine blk_drewN ?_ _ | refine blk_drew ?_ | refine blk_alloc ?_ _)); refine blk_far ?_ NB174_186.out _; (with_reducible repeat (first | refine blk_drewN ?_ _ | refine blk_drew ?_ | refine blk_alloc ?_ _)); refine blk_far ?_ NB174_186.out _; (with_reducible repeat (first | refine blk_drewN ?_ _ | refine blk_drew ?_ | refine blk_alloc ?_ _)); exact BK174.out) hb); replace BK186 := zM (blk_below (g := gb186) (o := .cells #[.int .i64 t182, .slice Ao24 t183.length co24] 28 (0, 0)) (by (with_reducible repeat (first | refine blk_drewN ?_ _ | refine blk_drew ?_ | refine blk_alloc ?_ _)); refine blk_put (cs := #[.int .i64 t182, .slice none 0 0]) ?_ 1 _ rfl; (with_reducible repeat (first | refine blk_drewN ?_ _ | refine blk_drew ?_ | refine blk_alloc ?_ _)); refine blk_put (cs := #[.int .i64 0, .slice none 0 0]) ?_ 0 _ rfl; (with_reducible repeat (first | refine blk_drewN ?_ _ | refine blk_drew ?_ | refine blk_alloc ?_ _)); exact BK186.out) hb); replace HB := zM (below_step zB hb); (try clear hb); (try clear hb2); (try clear hk); (try clear hi)))
   (try simp only [Act.put, List.setIfInBounds_toArray, List.set_cons_zero, List.set_cons_succ])
   go_cut [34] (fun v34 wc => ∃ (kq : Nat) (x34_10 : Bool), v34 = .bool x34_10 ∧ Aside0 (laws_FnExactGraphText.j0 kq x34_10 a0_0 l0_1 t182 t183 = some r) ∧ Aside0 (kq ≤ k) ∧ Aside0 (Kd.R k41 41 wc w.heap.size (fun _ => True) (.slice Ao24 t183.length co24) t183) ∧ Aside0 (wc.heap[gb174]? = some (.cells #[.int .i64 a0_0, (.slice A0_1 l0_1.length c0_1)] 24 (0, 0))) ∧ Aside0 (wc.heap[gb186]? = some (.cells #[.int .i64 t182, (.slice Ao24 t183.length co24)] 28 (0, 0))) ∧ Aside0 (Below w.heap.size w wc))
   case first =>
    have H := HC11.out
    clear HC11
    by_cases c26 : t187.toList = t180.toList
    · rw [if_pos c26] at H
      have c26b0 : (t187.toList == t180.toList) = true := beq_iff_eq.mpr c26
      have c26b1 : (t187.toList != t180.toList) = false := bne_eq_false_iff_eq.mpr c26
      clear c26
      (first | rw [c26b0] | (simp only [i64_w, i32_w]; rw [c26b0]) | skip)
      have H' := Aside0.mk H
      clear H
      go_wp2
      go_meet
      case rel => exact ⟨_, ((t188 != t181)), (by first | rfl | (simp; done) | (simp [*]; done)), H', ⟨by first | omega | exact Nat.le_refl _⟩, ⟨by (with_reducible repeat (first | apply Kd.R_alloc | apply Kd.R_drewN | apply Kd.R_drew)); exact Kd.R_mono HO185.out (fun _ hk => trivial)⟩, ⟨zK BK174.out⟩, ⟨zK BK186.out⟩, ⟨zB⟩⟩
    · rw [if_neg c26] at H
      have c26b0 : (t187.toList == t180.toList) = false := beq_eq_false_iff_ne.mpr c26
      have c26b1 : (t187.toList != t180.toList) = true := bne_iff_ne.mpr c26
      (first | rw [c26b0] | (simp only [i64_w, i32_w]; rw [c26b0]) | skip)
      have H' := Aside0.mk H
      clear H
      go_wp2
      go_meet
      case rel => exact ⟨_, (true), (by first | rfl | (simp; done) | (simp [*]; done)), H', ⟨by first | omega | exact Nat.le_refl _⟩, ⟨by (with_reducible repeat (first | apply Kd.R_alloc | apply Kd.R_drewN | apply Kd.R_drew)); exact Kd.R_mono HO185.out (fun _ hk => trivial)⟩, ⟨zK BK174.out⟩, ⟨zK BK186.out⟩, ⟨zB⟩⟩
   case rest =>
    clear HC11
    try clear c2
    try clear p2
    try clear c3
    try clear c3b0
    try clear c5
    try clear c6
    try clear c7
    try clear c8
    try clear c22
    try clear c26
    try clear c26b0
    try clear c26b1
    try clear hcz13_0
    try clear hcz13_1
    try clear hcz15_0
    try clear hcz15_1
    try clear hcz19_0
    try clear hcz19_1
    try clear hcz23_0
    try clear hcz23_1
    try clear hcz5_0
    try clear hcz5_1
    try clear hfz13_0
    try clear hfz13_1
    try clear hfz15_0
    try clear hfz15_1
    try clear hfz19_0
    try clear hfz19_1
    try clear hfz23_0
    try clear hfz23_1
    try clear hfz5_0
    try clear hfz5_1
    obtain ⟨kq, x34_10, rfl, HA, HJ10, HO_187001, BK174, BK186, HB⟩ := hcut
    cases kq with
    | zero => exact absurd HA.out (by simp [laws_FnExactGraphText.j0])
    | succ kj10 =>
     have H := HA.out
     clear HA
     simp only [laws_FnExactGraphText.j0] at H
     by_cases c27 : x34_10 = true
     · subst c27
       rw [if_pos rfl] at H
       obtain rfl := Option.some.inj H
       go_wp2
       go_ret
       exact ⟨by first | rfl | (simp [errW_none, errW_some] <;> rfl) | (simp [*, errW_none, errW_some] <;> rfl), zB⟩
     · replace c27 := Bool.eq_false_iff.mpr c27
       subst c27
       have H1 : ((laws_toGraph.f kj10 a0_0 l0_1).bind fun bt189 => ((laws_eqGraph.f kj10 t182 t183 bt189.1 bt189.2).bind fun t193 => (if t193 = true then (some true) else (some false)))) = some r := by rw [if_neg (show ¬ (false = true) by decide)] at H; exact H
       clear H
       have H := H1
       clear H1
       replace H := Option.bind_eq_some_iff.mp H
       obtain ⟨⟨t189, t190⟩, A280, H⟩ := H
       replace H : ((laws_eqGraph.f kj10 t182 t183 t189 t190).bind fun t193 => (if t193 = true then (some true) else (some false))) = some r := H
       have A28 := Aside0.mk A280
       clear A280
       replace H := Option.bind_eq_some_iff.mp H
       obtain ⟨t193, A290, H⟩ := H
       have A29 := Aside0.mk A290
       clear A290
       by_cases c30 : t193 = true
       · subst c30
         rw [if_pos rfl] at H
         obtain rfl := Option.some.inj H
         try go_wp2
         replace HO_187001 := zM (Kd.R_drew HO_187001.out)
         replace BK174 := zM (blk_drew BK174.out)
         replace BK186 := zM (blk_drew BK186.out)
         replace HB := zM (below_drew1 HB.out)
         refine zs (n := 5) (fun w' => w'.cell? ⟨gb186, 0, none⟩ = some (.int .i64 t182) ∧ w'.cell? ⟨gb186, 1, none⟩ = some (.slice Ao24 t183.length co24) ∧ w'.cell? ⟨gb174, 0, none⟩ = some (.int .i64 a0_0) ∧ w'.cell? ⟨gb174, 1, none⟩ = some (.slice A0_1 l0_1.length c0_1)) ⟨(blk_cell BK186.out 0).trans rfl, (blk_cell BK186.out 1).trans rfl, (blk_cell BK174.out 0).trans rfl, (blk_cell BK174.out 1).trans rfl⟩ (fun hHeld => ?_)
         generalize wc.drew = w31 at HO_187001 BK174 BK186 HB hHeld ⊢
         refine zl 0 35 hHeld ?_ (hy := by rintro w' ⟨s0, s1, s2, s3⟩; go_simp; with_reducible rfl)
         refine zl 1 36 hHeld ?_ (hy := by rintro w' ⟨s0, s1, s2, s3⟩; go_simp; with_reducible rfl)
         refine zh 2 37 Tryd.func7 #[.agg #[.int .i64 a0_0, .slice A0_1 l0_1.length c0_1]] (fun K hK => ?_)
         with_reducible refine (laws_toGraph.calls kj10 a0_0 _ _ l0_1 t189 t190 _ ?side1 ?side2 A28.out).mono ?_
         (case side1 => exact zC (Kd.C_below HR0_1.out HB.out))
         (case side2 => exact HC0_1.out)
         rintro e w32 ⟨v191, rfl, ho0, hb⟩
         refine ⟨_, rfl, ?_⟩
         have HO192 := zM (Kd.R_lower (Kd.R_new' ho0 (Kd.R_lt (zR HO_187001.out))) (below_size zB))
         replace HO_187001 := zM (Kd.R_elder' (zR HO_187001.out) (Kd.R_base ho0) hb)
         replace BK174 := zM (blk_below (g := gb174) (o := .cells #[.int .i64 a0_0, .slice A0_1 l0_1.length c0_1] 24 (0, 0)) (zK BK174.out) hb)
         replace BK186 := zM (blk_below (g := gb186) (o := .cells #[.int .i64 t182, .slice Ao24 t183.length co24] 28 (0, 0)) (zK BK186.out) hb)
         replace HB := zM (below_step zB hb)
         (try clear hb)
         (try clear hb2)
         (try clear hk)
         (try clear hi)
         (try clear ho0)
         obtain ⟨Ao33, co33, eo33⟩ := Kd.R_slice HO192.out
         (first | subst eo33 | (injection eo33 with f1_ f2_ f3_; have f4_ := f1_.symm; have f5_ := f3_.symm; clear f1_ f2_ f3_; subst f4_; subst f5_))
         refine hK.out _ _ ⟨(blk_cell BK186.out 0).trans rfl, (blk_cell BK186.out 1).trans rfl, (blk_cell BK174.out 0).trans rfl, (blk_cell BK174.out 1).trans rfl⟩ (fun hHeld => ?_)
         clear hK K
         refine zn 37 ?_
         refine zh 3 38 Tryd.func9 #[.agg #[.int .i64 t182, .slice Ao24 t183.length co24], .agg #[.int .i64 t189, .slice Ao33 t190.length co33]] (fun K hK => ?_)
         with_reducible refine (laws_eqGraph.calls kj10 t182 _ _ t183 t189 _ _ t190 true _ ?side1 ?side2 ?side3 ?side4 A29.out).mono ?_
         (case side1 => exact zC (Kd.R_reads' HO_187001.out).2.2)
         (case side2 => exact (Kd.R_reads' HO_187001.out).2.1)
         (case side3 => exact zC (Kd.R_reads' HO192.out).2.2)
         (case side4 => exact (Kd.R_reads' HO192.out).2.1)
         rintro e w34 ⟨rfl, hb⟩
         refine ⟨_, rfl, ?_⟩
         replace HO_187001 := zM (Kd.R_below (zR HO_187001.out) hb)
         replace HO192 := zM (Kd.R_below (zR HO192.out) hb)
         replace BK174 := zM (blk_below (g := gb174) (o := .cells #[.int .i64 a0_0, .slice A0_1 l0_1.length c0_1] 24 (0, 0)) (zK BK174.out) hb)
         replace BK186 := zM (blk_below (g := gb186) (o := .cells #[.int .i64 t182, .slice Ao24 t183.length co24] 28 (0, 0)) (zK BK186.out) hb)
         replace HB := zM (below_step zB hb)
         (try clear hb)
         (try clear hb2)
         (try clear hk)
         (try clear hi)
         refine hK.out _ _ ⟨(blk_cell BK186.out 0).trans rfl, (blk_cell BK186.out 1).trans rfl, (blk_cell BK174.out 0).trans rfl, (blk_cell BK174.out 1).trans rfl⟩ (fun hHeld => ?_)
         clear hK K
         refine zn 38 ?_
         refine zq 4 39 ?_
         refine zx ?_
         try go_wp2
         go_ret
         exact ⟨by first | rfl | (simp [errW_none, errW_some] <;> rfl) | (simp [*, errW_none, errW_some] <;> rfl), zB⟩
       · replace c30 := Bool.eq_false_iff.mpr c30
         subst c30
         have H1 : (some false) = some r := by rw [if_neg (show ¬ (false = true) by decide)] at H; exact H
         clear H
         have H := H1
         clear H1
         obtain rfl := Option.some.inj H
         try go_wp2
         replace HO_187001 := zM (Kd.R_drew HO_187001.out)
         replace BK174 := zM (blk_drew BK174.out)
         replace BK186 := zM (blk_drew BK186.out)
         replace HB := zM (below_drew1 HB.out)
         refine zs (n := 5) (fun w' => w'.cell? ⟨gb186, 0, none⟩ = some (.int .i64 t182) ∧ w'.cell? ⟨gb186, 1, none⟩ = some (.slice Ao24 t183.length co24) ∧ w'.cell? ⟨gb174, 0, none⟩ = some (.int .i64 a0_0) ∧ w'.cell? ⟨gb174, 1, none⟩ = some (.slice A0_1 l0_1.length c0_1)) ⟨(blk_cell BK186.out 0).trans rfl, (blk_cell BK186.out 1).trans rfl, (blk_cell BK174.out 0).trans rfl, (blk_cell BK174.out 1).trans rfl⟩ (fun hHeld => ?_)
         generalize wc.drew = w35 at HO_187001 BK174 BK186 HB hHeld ⊢
         refine zl 0 35 hHeld ?_ (hy := by rintro w' ⟨s0, s1, s2, s3⟩; go_simp; with_reducible rfl)
         refine zl 1 36 hHeld ?_ (hy := by rintro w' ⟨s0, s1, s2, s3⟩; go_simp; with_reducible rfl)
         refine zh 2 37 Tryd.func7 #[.agg #[.int .i64 a0_0, .slice A0_1 l0_1.length c0_1]] (fun K hK => ?_)
         with_reducible refine (laws_toGraph.calls kj10 a0_0 _ _ l0_1 t189 t190 _ ?side1 ?side2 A28.out).mono ?_
         (case side1 => exact zC (Kd.C_below HR0_1.out HB.out))
         (case side2 => exact HC0_1.out)
         rintro e w36 ⟨v191, rfl, ho0, hb⟩
         refine ⟨_, rfl, ?_⟩
         have HO192 := zM (Kd.R_lower (Kd.R_new' ho0 (Kd.R_lt (zR HO_187001.out))) (below_size zB))
         replace HO_187001 := zM (Kd.R_elder' (zR HO_187001.out) (Kd.R_base ho0) hb)
         replace BK174 := zM (blk_below (g := gb174) (o := .cells #[.int .i64 a0_0, .slice A0_1 l0_1.length c0_1] 24 (0, 0)) (zK BK174.out) hb)
         replace BK186 := zM (blk_below (g := gb186) (o := .cells #[.int .i64 t182, .slice Ao24 t183.length co24] 28 (0, 0)) (zK BK186.out) hb)
         replace HB := zM (below_step zB hb)
         (try clear hb)
         (try clear hb2)
         (try clear hk)
         (try clear hi)
         (try clear ho0)
         obtain ⟨Ao37, co37, eo37⟩ := Kd.R_slice HO192.out
         (first | subst eo37 | (injection eo37 with f1_ f2_ f3_; have f4_ := f1_.symm; have f5_ := f3_.symm; clear f1_ f2_ f3_; subst f4_; subst f5_))
         refine hK.out _ _ ⟨(blk_cell BK186.out 0).trans rfl, (blk_cell BK186.out 1).trans rfl, (blk_cell BK174.out 0).trans rfl, (blk_cell BK174.out 1).trans rfl⟩ (fun hHeld => ?_)
         clear hK K
         refine zn 37 ?_
         refine zh 3 38 Tryd.func9 #[.agg #[.int .i64 t182, .slice Ao24 t183.length co24], .agg #[.int .i64 t189, .slice Ao37 t190.length co37]] (fun K hK => ?_)
         with_reducible refine (laws_eqGraph.calls kj10 t182 _ _ t183 t189 _ _ t190 false _ ?side1 ?side2 ?side3 ?side4 A29.out).mono ?_
         (case side1 => exact zC (Kd.R_reads' HO_187001.out).2.2)
         (case side2 => exact (Kd.R_reads' HO_187001.out).2.1)
         (case side3 => exact zC (Kd.R_reads' HO192.out).2.2)
         (case side4 => exact (Kd.R_reads' HO192.out).2.1)
         rintro e w38 ⟨rfl, hb⟩
         refine ⟨_, rfl, ?_⟩
         replace HO_187001 := zM (Kd.R_below (zR HO_187001.out) hb)
         replace HO192 := zM (Kd.R_below (zR HO192.out) hb)
         replace BK174 := zM (blk_below (g := gb174) (o := .cells #[.int .i64 a0_0, .slice A0_1 l0_1.length c0_1] 24 (0, 0)) (zK BK174.out) hb)
         replace BK186 := zM (blk_below (g := gb186) (o := .cells #[.int .i64 t182, .slice Ao24 t183.length co24] 28 (0, 0)) (zK BK186.out) hb)
         replace HB := zM (below_step zB hb)
         (try clear hb)
         (try clear hb2)
         (try clear hk)
         (try clear hi)
         refine hK.out _ _ ⟨(blk_cell BK186.out 0).trans rfl, (blk_cell BK186.out 1).trans rfl, (blk_cell BK174.out 0).trans rfl, (blk_cell BK174.out 1).trans rfl⟩ (fun hHeld => ?_)
         clear hK K
         refine zn 38 ?_
         refine zq 4 39 ?_
         refine zx ?_
         try go_wp2
         go_ret
         exact ⟨by first | rfl | (simp [errW_none, errW_some] <;> rfl) | (simp [*, errW_none, errW_some] <;> rfl), zB⟩

end Go.Proofs.YtfkcddambaadjaaDoor.P
namespace Go.Proofs.YtfkcddambaadjaaDoor.P
open Go.RowKit Go.Proofs.YtfkcddambaadjaaDoorW.PrintWords Go.Proofs.YtfkcddambaadjaaDoorW.PrintLast Go.Proofs.YtfkcddambaadjaaDoorW.PrintMore
set_option linter.unusedVariables false
set_option linter.unusedSimpArgs false
theorem goodP_all (n : Int) (l : List S41) : ∀ p, goodP n p l = true → ∀ e ∈ l, 0 ≤ e.f0 ∧ e.f0 < e.f1 ∧ e.f1 < n := by
  induction l with
  | nil => intro p _ e he; cases he
  | cons x t ih =>
    intro p h e he
    simp only [goodP, Bool.and_eq_true, decide_eq_true_eq] at h
    rcases List.mem_cons.1 he with rfl | he
    · exact ⟨h.1.1.1, h.1.1.2, h.1.2⟩
    · exact ih _ h.2.2 e he
theorem okG_small (a : Int) (l : List S41) (h : okG a l = true) : (0 ≤ a ∧ a ≤ 8) ∧ ∀ e ∈ l, 0 ≤ e.f0 ∧ e.f0 < e.f1 ∧ e.f1 < a := by
  unfold okG at h
  simp only [Bool.and_eq_true, decide_eq_true_eq] at h
  exact ⟨h.1, goodP_all a l none h.2⟩
theorem okG_fit (a : Int) (l : List S41) (h : okG a l = true) : (-9223372036854775807 < a ∧ a < 9223372036854775807) ∧ ∀ e ∈ l, smallE e := by
  obtain ⟨h1, h2⟩ := okG_small a l h
  refine ⟨by omega, fun e he => ?_⟩
  have := h2 e he
  unfold smallE
  omega
theorem itoa_f (n : Int) (h : -9223372036854775807 < n ∧ n < 9223372036854775807) : strconv_Itoa.f n = some (str (Lib.itoa n)) := if_pos ⟨by omega, by omega⟩
theorem implText_loop (l : List S41) (hl : l.length ≤ 1048576) (hs : ∀ e ∈ l, smallE e) (d : Nat) : ∀ (m : Nat) (acc : ByteArray), l.length - m = d → m ≤ l.length → acc.size ≤ 44 * m + 44 →
    Ev (fun k => impl_GraphText.l0 k acc l (l.length : Int) (m : Int)) ((l.drop m).foldl edgeB acc, true) := by
  induction d with
  | zero =>
    intro m acc h1 h2 h3
    rw [List.drop_eq_nil_of_le (by omega), List.foldl_nil]
    exact Ev.step (fun k => by rw [impl_GraphText.l0]) (Ev.neg (by omega) (Ev.now _))
  | succ d ih =>
    intro m acc h1 h2 h3
    have hm : m < l.length := by omega
    obtain ⟨x1, x2⟩ := hs l[m] (List.getElem_mem hm)
    have l1 := Lib.itoa_length_le l[m].f0 (by omega) (by omega)
    have l2 := Lib.itoa_length_le l[m].f1 (by omega) (by omega)
    rw [List.drop_eq_getElem_cons hm, List.foldl_cons]
    refine Ev.step (fun k => by rw [impl_GraphText.l0]) (Ev.pos (by omega) (Ev.pos (by omega) (Ev.pos (by omega) ?_)))
    rw [rdT_at l m hm]
    refine Ev.bindo (itoa_f _ x1) ?_
    refine Ev.pos (by rw [str_size]; omega) ?_
    refine Ev.pos (by simp only [ByteArray.size_append, str_size, show (⟨#[32]⟩ : ByteArray).size = 1 from rfl]; omega) ?_
    refine Ev.bindo (itoa_f _ x2) ?_
    refine Ev.pos (by simp only [ByteArray.size_append, str_size, show (⟨#[32]⟩ : ByteArray).size = 1 from rfl, show (⟨#[45]⟩ : ByteArray).size = 1 from rfl]; omega) ?_
    refine Ev.pos (by simp only [ByteArray.size_append, str_size, show (⟨#[32]⟩ : ByteArray).size = 1 from rfl, show (⟨#[45]⟩ : ByteArray).size = 1 from rfl]; omega) ?_
    rw [wrap_up (m := m) (n := l.length) (by omega) (by omega)]
    have e : acc ++ ((((⟨#[32]⟩ : ByteArray) ++ str (Lib.itoa l[m].f0)) ++ (⟨#[45]⟩ : ByteArray)) ++ str (Lib.itoa l[m].f1)) = edgeB acc l[m] := by
      simp only [edgeB, ByteArray.append_assoc]
    rw [e]
    exact ih (m + 1) (edgeB acc l[m]) (by omega) (by omega) (by rw [edgeB_size]; omega)
theorem impl_GraphText_ev (a : Int) (l : List S41) (hl : l.length ≤ 1048576) : Ev (fun k => impl_GraphText.f k a l) (graR a l) := by
  unfold impl_GraphText.f
  refine Ev.bind (impl_IsGraph_ev a l hl) ?_
  cases h : okG a l with
  | true =>
    rw [show graR a l = (textB a l, true) from if_pos h]
    refine Ev.pos rfl ?_
    have hf := okG_fit a l h
    refine Ev.bindo (itoa_f _ hf.1) ?_
    have l1 := Lib.itoa_length_le a (by omega) (by omega)
    have := implText_loop l hl hf.2 _ 0 (str (Lib.itoa a)) rfl (Nat.zero_le _) (by rw [str_size]; omega)
    rw [List.drop_zero] at this
    exact this
  | false =>
    rw [show graR a l = (⟨#[]⟩, false) from if_neg (by rw [h]; decide)]
    exact Ev.neg (by decide) (Ev.now _)
theorem Pure_FnExactGraphText (a : Int) (l : List S41) (w0 : (Lit.int .i64 a).wf = true) (w1 : FitP l) : ∃ k, laws_FnExactGraphText.f k a l = some true := by
  obtain ⟨t, ht, hc⟩ := sz_graph a l w1.1
  refine Ev.rounds ?_
  unfold laws_FnExactGraphText.f
  refine Ev.bindo ht ?_
  by_cases h0 : t < 0
  · exact Ev.pos h0 (Ev.now _)
  · refine Ev.neg h0 ?_
    have hl := hc.resolve_left h0
    refine Ev.bind (toGraph_ev a l hl) ?_
    refine Ev.bind (spec_GraphText_ev a l hl (okG_fit a l)) ?_
    refine Ev.bind (toGraph_ev a l hl) ?_
    refine Ev.bind (impl_GraphText_ev a l hl) ?_
    refine Ev.pos rfl ?_
    refine Ev.step (fun k => by rw [laws_FnExactGraphText.j0]) (Ev.neg (by simp) ?_)
    refine Ev.bind (toGraph_ev a l hl) ?_
    refine Ev.bind (eqGraph_ev a l hl) ?_
    first | exact Ev.now _ | exact Ev.pos rfl (Ev.now _) | exact Ev.neg (by decide) (Ev.now _)
end Go.Proofs.YtfkcddambaadjaaDoor.P
