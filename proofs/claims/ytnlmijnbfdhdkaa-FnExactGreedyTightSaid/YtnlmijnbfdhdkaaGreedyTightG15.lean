/- Independent sets: no two nodes of a list are neighbours, as both sides test it. -/
import Derived.Test.YtnlmijnbfdhdkaaGreedyTightG14
import Derived.Test.YtnlmijnbfdhdkaaGreedyTightG9
import Derived.Test.YtnlmijnbfdhdkaaGreedyTightG3
import Derived.Test.YtnlmijnbfdhdkaaGreedyTightG6
import Derived.Test.YtnlmijnbfdhdkaaGreedyTightG8
import Derived.Test.YtnlmijnbfdhdkaaGreedyTightG10
import Derived.Test.YtnlmijnbfdhdkaaGreedyTightG12
import Derived.Test.YtnlmijnbfdhdkaaGreedyTightG4
import Derived.Test.YtnlmijnbfdhdkaaGreedyTightG13
import Derived.Test.YtnlmijnbfdhdkaaGreedyTightG5
import Derived.Test.YtnlmijnbfdhdkaaGreedyTightG7
import Derived.Test.YtnlmijnbfdhdkaaGreedyTightG11
import Derived.Handy
namespace Go.Proofs.Ytnlmijnbfdhdkaa.P
open Go.RowKit Go.Proofs.YtnlmijnbfdhdkaaW.PrintWords Go.Proofs.YtnlmijnbfdhdkaaW.PrintLast Go.Proofs.YtnlmijnbfdhdkaaW.PrintMore
set_option linter.unusedVariables false

section
variable (a : Int) (e : List S88) (l : List Int) (he : e.length ≤ 1048576) (hl : l.length ≤ 1048576)
include he hl
end
/-- No edge has both nodes in the set. -/
def freeI (e : List S88) (l : List Int) : Bool := !(e.any fun s => decide (s.f0 ∈ l) && decide (s.f1 ∈ l))
theorem hasP_iff (e : List S88) (x y : Int) : hasP e x y = true ↔ ∃ s ∈ e, (s.f0 = x ∧ s.f1 = y) ∨ (s.f0 = y ∧ s.f1 = x) := by
  unfold hasP
  rw [List.any_eq_true]
  simp only [Bool.or_eq_true, Bool.and_eq_true, decide_eq_true_eq]
theorem isFree_at (a : Int) (e : List S88) (b : Int) (l : List Int) (he : ∀ s ∈ e, 0 ≤ s.f0 ∧ s.f0 < s.f1 ∧ s.f1 < 8) (hb : ∀ y, 0 ≤ y → y < 8 → hasI b y = decide (y ∈ l)) : impl_Graph_isFree.f a e b = some (freeI e l) := by
  unfold impl_Graph_isFree.f
  have h1 : e.all (fun s => (impl_bag_has.f b s.f0).isSome && (impl_bag_has.f b s.f1).isSome) = true := by
    rw [List.all_eq_true]
    intro s hs
    have := he s hs
    rw [bag_has_at (by omega), bag_has_at (by omega)]
    rfl
  rw [if_pos h1]
  unfold freeI
  congr 2
  refine any_congr e _ _ fun s hs => ?_
  have := he s hs
  unfold bothB
  rw [bag_has_at (by omega), bag_has_at (by omega), Option.getD_some, Option.getD_some, hb _ (by omega) (by omega), hb _ (by omega) (by omega)]
end Go.Proofs.Ytnlmijnbfdhdkaa.P
namespace Go.Proofs.Ytnlmijnbfdhdkaa.P
open Go.RowKit Go.Proofs.YtnlmijnbfdhdkaaW.PrintWords Go.Proofs.YtnlmijnbfdhdkaaW.PrintLast Go.Proofs.YtnlmijnbfdhdkaaW.PrintMore
set_option linter.unusedVariables false

def nbs (l : List S88) (x : Int) : Nat → Int → List Int
  | 0, _ => []
  | d + 1, y => (if hasP l x y = true then [y] else []) ++ nbs l x d (y + 1)
theorem nbs_len (l : List S88) (x : Int) (d : Nat) : ∀ y, (nbs l x d y).length ≤ d := by
  induction d with
  | zero => intro y; simp [nbs]
  | succ d ih =>
    intro y
    have := ih (y + 1)
    simp only [nbs, List.length_append]
    split <;> simp only [List.length_nil, List.length_cons] <;> omega
theorem hasP_self (l : List S88) (x : Int) (hu : ∀ e ∈ l, e.f0 < e.f1) : hasP l x x = false := by
  unfold hasP
  rw [List.any_eq_false]
  intro e he
  have := hu e he
  simp only [Bool.or_eq_true, Bool.and_eq_true, decide_eq_true_eq]
  omega
section
variable (a : Int) (l : List S88) (hl : l.length ≤ 1048576) (h8 : a ≤ 8) (x : Int)
include hl h8
variable (hu : ∀ e ∈ l, e.f0 < e.f1)
include hu
theorem iNbs_loop (d : Nat) : ∀ (y : Int) (acc : List Int), (a - y).toNat = d → 0 ≤ y → acc.length + d ≤ 1000 →
    Ev (fun k => impl_Graph_neighbors.l0 k x acc a y a l) (acc ++ nbs l x d y) := by
  induction d with
  | zero =>
    intro y acc h0 h1 h2
    refine Ev.step (fun k => by rw [impl_Graph_neighbors.l0]) (Ev.neg (by omega) ?_)
    simp only [nbs, List.append_nil]
    exact Ev.now _
  | succ d ih =>
    intro y acc h0 h1 h2
    refine Ev.step (fun k => by rw [impl_Graph_neighbors.l0]) (Ev.pos (by omega) ?_)
    have hw : wrap64 (y + 1) = y + 1 := wrap_nat (by omega) (by omega)
    rw [hw, nbs]
    by_cases cx : y = x
    · have c : ¬ hasP l x y = true := by rw [cx, hasP_self l x hu]; decide
      rw [if_neg c, List.nil_append]
      exact Ev.pos cx (ih (y + 1) acc (by omega) (by omega) (by omega))
    · refine Ev.neg cx (Ev.bind (has_ev a l x y hl hu) ?_)
      by_cases c : hasP l x y = true
      · refine Ev.pos c (Ev.pos (by omega) ?_)
        rw [if_pos c, ← List.append_assoc]
        exact ih (y + 1) _ (by omega) (by omega) (by rw [List.length_append, List.length_singleton]; omega)
      · rw [if_neg c, List.nil_append]
        exact Ev.neg c (ih (y + 1) acc (by omega) (by omega) (by omega))
end
theorem neighbors_ev (a : Int) (l : List S88) (x : Int) (hl : l.length ≤ 1048576) (h8 : a ≤ 8) (hu : ∀ e ∈ l, e.f0 < e.f1) : Ev (fun k => impl_Graph_neighbors.f k a l x) (nbs l x a.toNat 0) := by
  unfold impl_Graph_neighbors.f
  have := iNbs_loop a l hl h8 x hu a.toNat 0 [] (by omega) (by omega) (by simp; omega)
  simpa only [List.nil_append] using this
end Go.Proofs.Ytnlmijnbfdhdkaa.P
namespace Go.Proofs.Ytnlmijnbfdhdkaa.P
open Go.RowKit Go.Proofs.YtnlmijnbfdhdkaaW.PrintWords Go.Proofs.YtnlmijnbfdhdkaaW.PrintLast Go.Proofs.YtnlmijnbfdhdkaaW.PrintMore
set_option linter.unusedVariables false

theorem l1Has_loop (l : List Int) (x : Int) (hl : l.length ≤ 1048576) (d : Nat) : ∀ (m : Nat), l.length - m = d → m ≤ l.length → Ev (fun k => spec_l1Has.l0 k l x (m : Int)) (decide (x ∈ l.drop m)) := by
  induction d with
  | zero =>
    intro m h0 h1
    refine Ev.step (fun k => by rw [spec_l1Has.l0]) (Ev.neg (by omega) ?_)
    rw [List.drop_eq_nil_of_le (by omega), decide_eq_false (by simp)]
    exact Ev.now _
  | succ d ih =>
    intro m h0 h1
    have hm : m < l.length := by omega
    refine Ev.step (fun k => by rw [spec_l1Has.l0]) (Ev.pos (by omega) (Ev.pos (by omega) ?_))
    rw [rd_at l m hm, List.drop_eq_getElem_cons hm, wrap_up hm (by omega)]
    by_cases c : l[m] = x
    · rw [decide_eq_true (by rw [c]; exact List.mem_cons_self ..)]
      exact Ev.pos c (Ev.now _)
    · have h := ih (m + 1) (by omega) (by omega)
      rw [show decide (x ∈ l[m] :: l.drop (m + 1)) = decide (x ∈ l.drop (m + 1)) from by
        rw [decide_eq_decide, List.mem_cons]
        exact ⟨fun h => h.resolve_left (fun h => c h.symm), .inr⟩]
      exact Ev.neg c h
theorem l1Has_ev (l : List Int) (x : Int) (hl : l.length ≤ 1048576) : Ev (fun k => spec_l1Has.f k l x) (decide (x ∈ l)) := by
  have := l1Has_loop l x hl l.length 0 (by omega) (Nat.zero_le _)
  unfold spec_l1Has.f
  simpa only [List.drop_zero, Int.natCast_zero] using this
/-- The numbers of a row of d from y on that pass. -/
def selI (f : Int → Bool) : Nat → Int → List Int
  | 0, _ => []
  | d + 1, y => (if f y = true then [y] else []) ++ selI f d (y + 1)
theorem selI_len (f : Int → Bool) (d : Nat) : ∀ y, (selI f d y).length ≤ d := by
  induction d with
  | zero => intro y; simp [selI]
  | succ d ih =>
    intro y
    have := ih (y + 1)
    simp only [selI, List.length_append]
    split <;> simp only [List.length_nil, List.length_cons] <;> omega
theorem selI_congr (f g : Int → Bool) (d : Nat) : ∀ y, (∀ z, y ≤ z → z < y + (d : Int) → f z = g z) → selI f d y = selI g d y := by
  induction d with
  | zero => intro y _; rfl
  | succ d ih =>
    intro y h
    simp only [selI]
    rw [h y (by omega) (by omega), ih (y + 1) (fun z h1 h2 => h z (by omega) (by omega))]
theorem selI_none (f : Int → Bool) (d : Nat) : ∀ y, (∀ z, y ≤ z → z < y + (d : Int) → f z = false) → selI f d y = [] := by
  induction d with
  | zero => intro y _; rfl
  | succ d ih =>
    intro y h
    simp only [selI]
    rw [h y (by omega) (by omega), ih (y + 1) (fun z h1 h2 => h z (by omega) (by omega))]
    rfl
theorem selI_add (f : Int → Bool) (d e : Nat) : ∀ y, selI f (d + e) y = selI f d y ++ selI f e (y + (d : Int)) := by
  induction d with
  | zero => intro y; simp [selI]
  | succ d ih =>
    intro y
    rw [show d + 1 + e = (d + e) + 1 by omega]
    simp only [selI]
    rw [ih (y + 1), List.append_assoc, show y + 1 + (d : Int) = y + ((d + 1 : Nat) : Int) by omega]
theorem selI_mem (f : Int → Bool) (d : Nat) : ∀ y z, z ∈ selI f d y ↔ (y ≤ z ∧ z < y + (d : Int)) ∧ f z = true := by
  induction d with
  | zero => intro y z; simp only [selI, List.not_mem_nil, false_iff]; omega
  | succ d ih =>
    intro y z
    simp only [selI, List.mem_append, ih]
    by_cases c : f y = true
    · rw [if_pos c, List.mem_singleton]
      constructor
      · rintro (rfl | h)
        · exact ⟨by omega, c⟩
        · exact ⟨by omega, h.2⟩
      · rintro ⟨h, hf⟩
        by_cases hz : z = y
        · exact .inl hz
        · exact .inr ⟨by omega, hf⟩
    · rw [if_neg c]
      constructor
      · rintro (h | h)
        · simp at h
        · exact ⟨by omega, h.2⟩
      · rintro ⟨h, hf⟩
        by_cases hz : z = y
        · subst hz; exact absurd hf c
        · exact .inr ⟨by omega, hf⟩
def allI (n : Int) : Int := IntKind.u64.wrap ((shl .u64 1 n) - 1)
def lessI (b c : Int) : Int := Go.bits .andNot .u64 b c
theorem lessI_fin : ∀ n : Fin 9, ∀ b : Fin 256, (0 ≤ lessI (allI n) b ∧ lessI (allI n) b < 256) ∧ ∀ y : Fin 8, hasI (lessI (allI n) b) y = (decide (y.val < n.val) && !hasI b y) := by decide +kernel
theorem lessI_at {n b : Int} (hn : 0 ≤ n ∧ n ≤ 8) (hb : 0 ≤ b ∧ b < 256) : (0 ≤ lessI (allI n) b ∧ lessI (allI n) b < 256) ∧ ∀ y, 0 ≤ y → y < 8 → hasI (lessI (allI n) b) y = (decide (y < n) && !hasI b y) := by
  obtain ⟨i, rfl⟩ := fin_of (n := 9) hn.1 (by omega)
  obtain ⟨j, rfl⟩ := fin_of (n := 256) hb.1 hb.2
  have h := lessI_fin i j
  refine ⟨h.1, fun y h0 h8 => ?_⟩
  obtain ⟨q, rfl⟩ := fin_of (n := 8) h0 h8
  rw [h.2 q]
  congr 1
  rw [decide_eq_decide]
  omega
theorem bag_list_loop (b : Int) (d : Nat) : ∀ (y : Int) (acc : List Int), (8 - y).toNat = d → 0 ≤ y → acc.length + d ≤ 1000 → Ev (fun k => impl_bag_list.l0 k b acc y) (acc ++ selI (hasI b) d y) := by
  induction d with
  | zero =>
    intro y acc h0 h1 h2
    refine Ev.step (fun k => by rw [impl_bag_list.l0]) (Ev.neg (by omega) ?_)
    simp only [selI, List.append_nil]
    exact Ev.now _
  | succ d ih =>
    intro y acc h0 h1 h2
    refine Ev.step (fun k => by rw [impl_bag_list.l0]) (Ev.pos (by omega) (Ev.pos (by omega) ?_))
    have hw : wrap64 (y + 1) = y + 1 := wrap_nat (by omega) (by omega)
    rw [hw, selI]
    by_cases c : hasI b y = true
    · rw [if_pos c, ← List.append_assoc]
      refine Ev.pos (by simpa only [hasI, beq_iff_eq] using c) (Ev.pos (by omega) ?_)
      exact ih (y + 1) _ (by omega) (by omega) (by rw [List.length_append, List.length_singleton]; omega)
    · rw [if_neg c, List.nil_append]
      exact Ev.neg (by simpa only [hasI, beq_iff_eq] using c) (ih (y + 1) acc (by omega) (by omega) (by omega))
theorem bag_list_ev (b : Int) : Ev (fun k => impl_bag_list.f k b) (selI (hasI b) 8 0) := by
  unfold impl_bag_list.f
  have := bag_list_loop b 8 0 [] (by omega) (by omega) (by simp)
  simpa only [List.nil_append] using this
theorem set_small {a : Int} {e : List S88} {l : List Int} (h : okG a e = true) (c : risI 0 (wrap64 (a - 1)) none l = true) : ∀ x ∈ l, 0 ≤ x ∧ x < 8 := fun x hx => by
  have h1 := okG_all h
  have hw : wrap64 (a - 1) = a - 1 := wrap_nat (by omega) (by omega)
  have := risI_all _ _ l none c x hx
  omega
end Go.Proofs.Ytnlmijnbfdhdkaa.P
namespace Go.Proofs.Ytnlmijnbfdhdkaa.P
open Go.RowKit Go.Proofs.YtnlmijnbfdhdkaaW.PrintWords Go.Proofs.YtnlmijnbfdhdkaaW.PrintLast Go.Proofs.YtnlmijnbfdhdkaaW.PrintMore
set_option linter.unusedVariables false

/-! What two bags have in common. -/
theorem wraps8 (n : Int) (h0 : 0 ≤ n) (h1 : n < 2 ^ 8) : IntKind.u64.wrap n = n := by
  simp [IntKind.wrap, IntKind.bits, IntKind.signed]
  omega
theorem hasI_bit (n y : Nat) (hn : n < 256) (hy : y < 8) : hasI (n : Int) (y : Int) = n.testBit y := by
  unfold hasI shr
  have e : (n : Int) / 2 ^ min (y : Int).toNat IntKind.u64.bits = ((n / 2 ^ y : Nat) : Int) := by
    rw [Int.toNat_natCast, Nat.min_eq_left (by show y ≤ 64; omega)]
    simp
  rw [e, show (1 : Int) = ((1 : Nat) : Int) from rfl, (bits_nat .u64 8 (by decide) wraps8 (n / 2 ^ y) 1 (Nat.lt_of_le_of_lt (Nat.div_le_self _ _) hn) (by decide)).1, Nat.and_one_is_mod, Nat.testBit_eq_decide_div_mod_eq, Bool.eq_iff_iff, beq_iff_eq, decide_eq_true_eq]
  omega
theorem andI_zero {b c : Int} (hb : 0 ≤ b ∧ b < 256) (hc : 0 ≤ c ∧ c < 256) : Go.bits .and .u64 b c = 0 ↔ ∀ y : Int, 0 ≤ y → y < 8 → ¬ (hasI b y = true ∧ hasI c y = true) := by
  obtain ⟨n, rfl⟩ := Int.eq_ofNat_of_zero_le hb.1
  obtain ⟨m, rfl⟩ := Int.eq_ofNat_of_zero_le hc.1
  have hn : n < 256 := by omega
  have hm : m < 256 := by omega
  rw [(bits_nat .u64 8 (by decide) wraps8 n m hn hm).1]
  constructor
  · intro h y h0 h8 hh
    obtain ⟨q, rfl⟩ := Int.eq_ofNat_of_zero_le h0
    rw [hasI_bit n q hn (by omega), hasI_bit m q hm (by omega)] at hh
    have h1 : n &&& m = 0 := by omega
    have := Nat.testBit_and n m q
    rw [h1, hh.1, hh.2, Nat.zero_testBit] at this
    simp at this
  · intro h
    have : n &&& m = 0 := by
      refine Nat.eq_of_testBit_eq fun q => ?_
      rw [Nat.testBit_and, Nat.zero_testBit]
      by_cases hq : q < 8
      · have := h (q : Int) (by omega) (by omega)
        rw [hasI_bit n q hn hq, hasI_bit m q hm hq] at this
        cases h1 : n.testBit q <;> cases h2 : m.testBit q <;> simp_all
      · rw [Nat.testBit_lt_two_pow (i := q) (x := n) (Nat.lt_of_lt_of_le hn (by show 2 ^ 8 ≤ 2 ^ q; exact Nat.pow_le_pow_right (by decide) (by omega))), Bool.false_and]
    rw [this]
    rfl
/-! A cover. -/
def coverI (e : List S88) (l : List Int) : Bool := e.all fun s => decide (s.f0 ∈ l) || decide (s.f1 ∈ l)
theorem cover_loop (a : Int) (e : List S88) (l : List Int) (he : e.length ≤ 1048576) (hl : l.length ≤ 1048576) (d : Nat) : ∀ (m : Nat), e.length - m = d → m ≤ e.length → Ev (fun k => spec_l4Has.l0 k l (m : Int) a e) (coverI (e.drop m) l) := by
  induction d with
  | zero =>
    intro m h0 h1
    refine Ev.step (fun k => by rw [spec_l4Has.l0]) (Ev.neg (by omega) ?_)
    rw [List.drop_eq_nil_of_le (by omega)]
    exact Ev.now _
  | succ d ih =>
    intro m h0 h1
    have hm : m < e.length := by omega
    have ihm := ih (m + 1) (by omega) (by omega)
    rw [← wrap_up hm (by omega)] at ihm
    refine Ev.step (fun k => by rw [spec_l4Has.l0]) (Ev.pos (by omega) (Ev.pos (by omega) ?_))
    rw [rdT_at e m hm, List.drop_eq_getElem_cons hm]
    unfold coverI at ihm ⊢
    rw [List.all_cons]
    refine Ev.bind (l1Has_ev l _ hl) ?_
    by_cases c : e[m].f0 ∈ l
    · rw [decide_eq_true c, Bool.true_or, Bool.true_and]
      exact Ev.pos rfl ihm
    · rw [decide_eq_false c, Bool.false_or]
      refine Ev.neg (by decide) (Ev.bind (l1Has_ev l _ hl) ?_)
      by_cases c2 : e[m].f1 ∈ l
      · rw [decide_eq_true c2, Bool.true_and]
        exact Ev.pos rfl ihm
      · rw [decide_eq_false c2, Bool.false_and]
        exact Ev.neg (by decide) (Ev.now _)
theorem cover_free {a : Int} {e : List S88} {l : List Int} (hg : okG a e = true) (hx : ∀ x ∈ l, 0 ≤ x ∧ x < 8) : impl_Graph_isFree.f a e (lessI (allI a) (bagI 0 l)) = some (coverI e l) := by
  have h1 := okG_all hg
  have hb := bagI_at l 0 (by omega) hx
  have hc := lessI_at (n := a) ⟨h1.1, h1.2.1⟩ hb.1
  have hv : ∀ y, 0 ≤ y → y < 8 → hasI (lessI (allI a) (bagI 0 l)) y = (decide (y < a) && !decide (y ∈ l)) := fun y h1 h2 => by rw [hc.2 y h1 h2, hb.2 y h1 h2, hasI_nil h1 h2, Bool.false_or]
  rw [isFree_at a e _ (selI (fun z => !decide (z ∈ l)) a.toNat 0) (fun s hs => by have := h1.2.2 s hs; omega) (fun y h0 h8 => ?_)]
  · congr 1
    unfold freeI coverI
    rw [Bool.eq_iff_iff, Bool.not_eq_true', List.any_eq_false, List.all_eq_true]
    refine forall_congr' fun s => forall_congr' fun hs => ?_
    have h2 := h1.2.2 s hs
    simp only [Bool.and_eq_true, decide_eq_true_eq, selI_mem, Bool.not_eq_true', decide_eq_false_iff_not, Bool.or_eq_true]
    by_cases c1 : s.f0 ∈ l
    · simp [c1]
    · by_cases c2 : s.f1 ∈ l
      · simp [c2]
      · simp only [c1, c2, not_false_eq_true, and_true, or_self, iff_false, Classical.not_not]
        omega
  · rw [hv y h0 h8, Bool.eq_iff_iff, decide_eq_true_eq, selI_mem, Bool.and_eq_true, decide_eq_true_eq]
    refine and_congr_left fun _ => ?_
    omega
/-! A clique. -/
def cliN (e : List S88) (l : List Int) : Nat → Nat → Bool
  | 0, _ => true
  | d + 1, i => if (l.take i).all (fun y => hasP e (l[i]?.getD 0) y) = true then cliN e l d (i + 1) else false
section
variable (a : Int) (e : List S88) (l : List Int) (he : e.length ≤ 1048576) (hl : l.length ≤ 1048576)
include he hl
theorem sCli_row {R : Bool} (i : Nat) (hi : i < l.length) (d : Nat) : ∀ (j : Nat), i - j = d → j ≤ i → Ev (fun k => spec_l4Has.l1 k l (wrap64 ((i : Int) + 1)) a e) R →
    Ev (fun k => spec_l4Has.l2 k l (i : Int) (j : Int) a e) (if ((l.take i).drop j).all (fun y => hasP e (l[i]?.getD 0) y) = true then R else false) := by
  induction d with
  | zero =>
    intro j h0 h1 h
    refine Ev.step (fun k => by rw [spec_l4Has.l2]) (Ev.neg (by omega) ?_)
    rw [List.drop_eq_nil_of_le (by rw [List.length_take]; omega), List.all_nil, if_pos rfl]
    exact h
  | succ d ih =>
    intro j h0 h1 h
    have hj : j < l.length := by omega
    refine Ev.step (fun k => by rw [spec_l4Has.l2]) (Ev.pos (by omega) (Ev.pos (by omega) (Ev.pos (by omega) (Ev.pos (by omega) (Ev.pos (by omega) ?_)))))
    rw [rd_at l j hj, rd_at l i hi]
    refine Ev.bind (near_ev a e l[i] l[j] he) ?_
    have hd : (l.take i).drop j = l[j] :: (l.take i).drop (j + 1) := by
      rw [List.drop_eq_getElem_cons (by rw [List.length_take]; omega), List.getElem_take]
    rw [hd, List.all_cons, List.getElem?_eq_getElem hi, Option.getD_some]
    have := ih (j + 1) (by omega) (by omega) h
    rw [List.getElem?_eq_getElem hi, Option.getD_some] at this
    cases c : hasP e l[i] l[j] with
    | true => rw [Bool.true_and, wrap_up hj (by omega)]; exact Ev.pos rfl this
    | false => rw [Bool.false_and, if_neg (by decide : ¬ false = true)]; exact Ev.neg (by decide) (Ev.now _)
theorem sCli_loop (d : Nat) : ∀ (i : Nat), l.length - i = d → i ≤ l.length → Ev (fun k => spec_l4Has.l1 k l (i : Int) a e) (cliN e l d i) := by
  induction d with
  | zero =>
    intro i h0 h1
    refine Ev.step (fun k => by rw [spec_l4Has.l1]) (Ev.neg (by omega) ?_)
    exact Ev.now _
  | succ d ih =>
    intro i h0 h1
    have hi : i < l.length := by omega
    refine Ev.step (fun k => by rw [spec_l4Has.l1]) (Ev.pos (by omega) ?_)
    have h := ih (i + 1) (by omega) (by omega)
    rw [← wrap_up hi (by omega)] at h
    have := sCli_row a e l he hl i hi i 0 (by omega) (by omega) h
    simpa only [List.drop_zero, cliN, Int.natCast_zero] using this
variable (hu : ∀ s ∈ e, s.f0 < s.f1)
include hu
theorem iCli_row {R : Bool} (i : Nat) (hi : i < l.length) (d : Nat) : ∀ (j : Nat), i - j = d → j ≤ i → Ev (fun k => impl_Graph_hasKind.l0 k l l (l.length : Int) (wrap64 ((i : Int) + 1)) a e) R →
    Ev (fun k => impl_Graph_hasKind.l1 k l l[i] l (l.length : Int) (i : Int) (l.take i) ((l.take i).length : Int) (j : Int) a e) (if ((l.take i).drop j).all (fun y => hasP e (l[i]?.getD 0) y) = true then R else false) := by
  have ht : (l.take i).length = i := by rw [List.length_take]; omega
  induction d with
  | zero =>
    intro j h0 h1 h
    refine Ev.step (fun k => by rw [impl_Graph_hasKind.l1]) (Ev.neg (by omega) ?_)
    rw [List.drop_eq_nil_of_le (by rw [List.length_take]; omega), List.all_nil, if_pos rfl]
    exact h
  | succ d ih =>
    intro j h0 h1 h
    have hj : j < l.length := by omega
    have hj2 : j < (l.take i).length := by omega
    refine Ev.step (fun k => by rw [impl_Graph_hasKind.l1]) (Ev.pos (by omega) (Ev.pos (by omega) (Ev.pos (by omega) ?_)))
    rw [rd_at (l.take i) j hj2, List.getElem_take]
    refine Ev.bind (has_ev a e l[i] l[j] he hu) ?_
    have hd : (l.take i).drop j = l[j] :: (l.take i).drop (j + 1) := by
      rw [List.drop_eq_getElem_cons hj2, List.getElem_take]
    rw [hd, List.all_cons, List.getElem?_eq_getElem hi, Option.getD_some]
    have := ih (j + 1) (by omega) (by omega) h
    rw [List.getElem?_eq_getElem hi, Option.getD_some] at this
    cases c : hasP e l[i] l[j] with
    | true => rw [Bool.true_and, wrap_up hj (by omega)]; exact Ev.pos rfl this
    | false => rw [Bool.false_and, if_neg (by decide : ¬ false = true)]; exact Ev.neg (by decide) (Ev.now _)
theorem iCli_loop (d : Nat) : ∀ (i : Nat), l.length - i = d → i ≤ l.length → Ev (fun k => impl_Graph_hasKind.l0 k l l (l.length : Int) (i : Int) a e) (cliN e l d i) := by
  induction d with
  | zero =>
    intro i h0 h1
    refine Ev.step (fun k => by rw [impl_Graph_hasKind.l0]) (Ev.neg (by omega) ?_)
    exact Ev.now _
  | succ d ih =>
    intro i h0 h1
    have hi : i < l.length := by omega
    refine Ev.step (fun k => by rw [impl_Graph_hasKind.l0]) (Ev.pos (by omega) (Ev.pos (by omega) (Ev.pos (by omega) (Ev.pos (by omega) ?_))))
    have h := ih (i + 1) (by omega) (by omega)
    rw [← wrap_up hi (by omega)] at h
    have := iCli_row a e l he hl hu i hi i 0 (by omega) (by omega) h
    rw [rd_at l i hi, Int.toNat_natCast]
    refine Ev.bindo rfl ?_
    simpa only [List.drop_zero, cliN, Int.natCast_zero] using this
end
/-- A rising list of small numbers is what its bag lists. -/
theorem ris_list (l : List Int) : ∀ (d : Nat) (p : Option Int) (y : Int), risI 0 7 p l = true → y + (d : Int) = 8 → 0 ≤ y → (∀ x ∈ l, y ≤ x) → selI (fun z => decide (z ∈ l)) d y = l := by
  induction l with
  | nil =>
    intro d p y h hd h0 hy
    exact selI_none _ d y (fun z _ _ => by simp)
  | cons x t ih =>
    intro d
    induction d with
    | zero =>
      intro p y h hd h0 hy
      have h1 := risI_all 0 7 (x :: t) p h x (List.mem_cons_self ..)
      have h2 := hy x (List.mem_cons_self ..)
      omega
    | succ d ihd =>
      intro p y h hd h0 hy
      have hx := hy x (List.mem_cons_self ..)
      have h' := h
      simp only [risI, Bool.and_eq_true, decide_eq_true_eq] at h'
      have ht : ∀ z ∈ t, x < z := by
        have h3 := h'.2.2
        have : ∀ (t : List Int) (q : Int), risI 0 7 (some q) t = true → ∀ z ∈ t, q < z := by
          intro t
          induction t with
          | nil => intro q _ z hz; simp at hz
          | cons w t ih =>
            intro q h z hz
            simp only [risI, Bool.and_eq_true, decide_eq_true_eq] at h
            rcases List.mem_cons.1 hz with rfl | hz
            · exact h.2.1
            · have := ih w h.2.2 z hz
              omega
        exact this t x h3
      by_cases c : y = x
      · subst c
        simp only [selI]
        rw [if_pos (by simp), List.singleton_append]
        congr 1
        have hcon : selI (fun z => decide (z ∈ y :: t)) d (y + 1) = selI (fun z => decide (z ∈ t)) d (y + 1) := selI_congr _ _ _ _ fun z h1 h2 => by
          rw [decide_eq_decide, List.mem_cons]
          exact ⟨fun h => h.resolve_left (by omega), .inr⟩
        rw [hcon]
        exact ih d (some y) (y + 1) h'.2.2 (by omega) (by omega) (fun z hz => by have := ht z hz; omega)
      · have hnot : ¬ y ∈ x :: t := by
          rw [List.mem_cons]
          rintro (hh | hh)
          · exact c hh
          · have := ht y hh
            omega
        simp only [selI]
        rw [if_neg (by simpa using hnot), List.nil_append]
        exact ihd p (y + 1) h (by omega) (by omega) (fun z hz => by
          rcases List.mem_cons.1 hz with rfl | hz
          · omega
          · have := ht z hz
            omega)
theorem bag_list_self {l : List Int} (h : risI 0 7 none l = true) : selI (hasI (bagI 0 l)) 8 0 = l := by
  have hx : ∀ x ∈ l, 0 ≤ x ∧ x < 8 := fun x hx => by have := risI_all 0 7 l none h x hx; omega
  have hb := (bagI_at l 0 (by omega) hx).2
  rw [selI_congr (hasI (bagI 0 l)) (fun z => decide (z ∈ l)) 8 0 (fun z h1 h2 => by rw [hb z h1 (by omega), hasI_nil h1 (by omega), Bool.false_or])]
  exact ris_list l 8 none 0 h (by decide) (by decide) (fun x hh => (hx x hh).1)
theorem risI_wide {n : Int} (hn : n ≤ 7) (l : List Int) : ∀ p, risI 0 n p l = true → risI 0 7 p l = true := by
  induction l with
  | nil => intro p _; cases p <;> rfl
  | cons x t ih =>
    intro p h
    simp only [risI, Bool.and_eq_true, decide_eq_true_eq] at h ⊢
    exact ⟨by omega, h.2.1, ih _ h.2.2⟩
/-! A dominating set. -/
theorem hasP_comm (e : List S88) (x y : Int) : hasP e x y = hasP e y x := by
  unfold hasP
  refine any_congr e _ _ fun s hs => ?_
  rw [Bool.or_comm]
def domN (e : List S88) (l : List Int) : Nat → Int → Bool
  | 0, _ => true
  | d + 1, x => if (decide (x ∈ l) || l.any fun y => hasP e y x) = true then domN e l d (x + 1) else false
section
variable (a : Int) (e : List S88) (l : List Int) (he : e.length ≤ 1048576) (hl : l.length ≤ 1048576) (h8 : a ≤ 8)
include he hl
theorem sDom_row {R : Bool} (x : Int) (d : Nat) : ∀ (m : Nat) (b : Bool), l.length - m = d → m ≤ l.length → Ev (fun k => spec_l4Has.l3 k l (wrap64 (x + 1)) a e) R →
    Ev (fun k => spec_l4Has.l4 k l x b (m : Int) a e) (if (b || (l.drop m).any fun y => hasP e y x) = true then R else false) := by
  induction d with
  | zero =>
    intro m b h0 h1 h
    refine Ev.step (fun k => by rw [spec_l4Has.l4]) (Ev.neg (by omega) ?_)
    rw [List.drop_eq_nil_of_le (by omega), List.any_nil, Bool.or_false]
    cases b with
    | true => rw [if_pos rfl]; exact Ev.pos rfl h
    | false => rw [if_neg (by decide : ¬ false = true)]; exact Ev.neg (by decide) (Ev.now _)
  | succ d ih =>
    intro m b h0 h1 h
    have hm : m < l.length := by omega
    refine Ev.step (fun k => by rw [spec_l4Has.l4]) (Ev.pos (by omega) ?_)
    rw [wrap_up hm (by omega), List.drop_eq_getElem_cons hm, List.any_cons]
    cases b with
    | true =>
      have := ih (m + 1) true (by omega) (by omega) h
      rw [Bool.true_or] at this ⊢
      exact Ev.pos rfl this
    | false =>
      refine Ev.neg (by decide) (Ev.pos (by omega) ?_)
      rw [rd_at l m hm, Bool.false_or]
      exact Ev.bind (near_ev a e l[m] x he) (ih (m + 1) _ (by omega) (by omega) h)
include h8
theorem sDom_loop (d : Nat) : ∀ (x : Int), (a - x).toNat = d → 0 ≤ x → Ev (fun k => spec_l4Has.l3 k l x a e) (domN e l d x) := by
  induction d with
  | zero =>
    intro x h0 h1
    refine Ev.step (fun k => by rw [spec_l4Has.l3]) (Ev.neg (by omega) ?_)
    exact Ev.now _
  | succ d ih =>
    intro x h0 h1
    have hw : wrap64 (x + 1) = x + 1 := wrap_nat (by omega) (by omega)
    refine Ev.step (fun k => by rw [spec_l4Has.l3]) (Ev.pos (by omega) (Ev.bind (l1Has_ev l x hl) ?_))
    have h := ih (x + 1) (by omega) (by omega)
    rw [← hw] at h
    have := sDom_row a e l he hl x l.length 0 (decide (x ∈ l)) (by omega) (Nat.zero_le _) h
    rw [hw] at this
    simpa only [List.drop_zero, domN, Int.natCast_zero] using this
end
section
variable (a : Int) (e : List S88) (l : List Int) (he : e.length ≤ 1048576) (h8 : a ≤ 8) (hg : okG a e = true) (hx : ∀ x ∈ l, 0 ≤ x ∧ x < 8)
include he h8 hg hx
theorem iDom_loop (d : Nat) : ∀ (x : Int), (a - x).toNat = d → 0 ≤ x → Ev (fun k => impl_Graph_hasKind.l2 k (bagI 0 l) a x a e) (domN e l d x) := by
  have h2 := okG_all hg
  have hu : ∀ s ∈ e, s.f0 < s.f1 := fun s hs => (h2.2.2 s hs).2.1
  have hb := bagI_at l 0 (by omega) hx
  induction d with
  | zero =>
    intro x h0 h1
    refine Ev.step (fun k => by rw [impl_Graph_hasKind.l2]) (Ev.neg (by omega) ?_)
    exact Ev.now _
  | succ d ih =>
    intro x h0 h1
    have hw : wrap64 (x + 1) = x + 1 := wrap_nat (by omega) (by omega)
    have h := ih (x + 1) (by omega) (by omega)
    refine Ev.step (fun k => by rw [impl_Graph_hasKind.l2]) (Ev.pos (by omega) (Ev.bindo (bag_has_at h1) ?_))
    rw [hb.2 x h1 (by omega), hasI_nil h1 (by omega), Bool.false_or, domN, hw]
    by_cases c : x ∈ l
    · rw [decide_eq_true c, Bool.true_or, if_pos rfl]
      exact Ev.pos rfl h
    · rw [decide_eq_false c, Bool.false_or]
      have hnx : ∀ y ∈ nbs e x a.toNat 0, 0 ≤ y ∧ y < 8 := by
        intro y hy
        have : ∀ (d : Nat) (z : Int), y ∈ nbs e x d z → z ≤ y ∧ y < z + (d : Int) := by
          intro d
          induction d with
          | zero => intro z hz; simp [nbs] at hz
          | succ d ih =>
            intro z hz
            simp only [nbs, List.mem_append] at hz
            rcases hz with hz | hz
            · split at hz
              · simp only [List.mem_singleton] at hz; omega
              · simp at hz
            · have := ih (z + 1) hz; omega
        have := this a.toNat 0 hy
        omega
      have hmem : ∀ y, y ∈ nbs e x a.toNat 0 ↔ (0 ≤ y ∧ y < a) ∧ hasP e x y = true := by
        intro y
        have : ∀ (d : Nat) (z : Int), y ∈ nbs e x d z ↔ (z ≤ y ∧ y < z + (d : Int)) ∧ hasP e x y = true := by
          intro d
          induction d with
          | zero => intro z; simp only [nbs, List.not_mem_nil, false_iff]; omega
          | succ d ih =>
            intro z
            simp only [nbs, List.mem_append, ih]
            by_cases c : hasP e x z = true
            · rw [if_pos c, List.mem_singleton]
              constructor
              · rintro (rfl | hh)
                · exact ⟨by omega, c⟩
                · exact ⟨by omega, hh.2⟩
              · rintro ⟨hh, hf⟩
                by_cases hz : y = z
                · exact .inl hz
                · exact .inr ⟨by omega, hf⟩
            · rw [if_neg c]
              constructor
              · rintro (hh | hh)
                · simp at hh
                · exact ⟨by omega, hh.2⟩
              · rintro ⟨hh, hf⟩
                by_cases hz : y = z
                · subst hz; exact absurd hf c
                · exact .inr ⟨by omega, hf⟩
        rw [this a.toNat 0]
        refine and_congr_left fun _ => ?_
        omega
      have hlen := nbs_len e x a.toNat 0
      have hb2 := bagI_at (nbs e x a.toNat 0) 0 (by omega) hnx
      refine Ev.neg (by decide) (Ev.bind (neighbors_ev a e x he h8 hu) (Ev.bind (bagOf_ev _ (by omega) hnx) ?_))
      have hz := andI_zero hb2.1 hb.1
      have hiff : Go.bits .and .u64 (bagI 0 (nbs e x a.toNat 0)) (bagI 0 l) = 0 ↔ ¬ (l.any fun y => hasP e y x) = true := by
        rw [hz, List.any_eq_true]
        constructor
        · rintro hh ⟨y, hy, hp⟩
          have hy8 := hx y hy
          refine hh y hy8.1 hy8.2 ⟨?_, ?_⟩
          · rw [hb2.2 y hy8.1 hy8.2, hasI_nil hy8.1 hy8.2, Bool.false_or, decide_eq_true_eq, hmem]
            refine ⟨?_, by rw [hasP_comm e]; exact hp⟩
            obtain ⟨s, hs, hc⟩ := (hasP_iff e y x).1 hp
            have := h2.2.2 s hs
            omega
          · rw [hb.2 y hy8.1 hy8.2, hasI_nil hy8.1 hy8.2, Bool.false_or, decide_eq_true_eq]
            exact hy
        · intro hh y h0 h8' hc
          rw [hb2.2 y h0 h8', hb.2 y h0 h8', hasI_nil h0 h8', Bool.false_or, Bool.false_or, decide_eq_true_eq, decide_eq_true_eq, hmem] at hc
          exact hh ⟨y, hc.2, by rw [hasP_comm e]; exact hc.1.2⟩
      by_cases c2 : (l.any fun y => hasP e y x) = true
      · rw [if_pos c2]
        exact Ev.neg (fun hh => hiff.1 hh c2) h
      · rw [if_neg c2]
        exact Ev.pos (hiff.2 c2) (Ev.now _)
end
end Go.Proofs.Ytnlmijnbfdhdkaa.P
namespace Go.Proofs.Ytnlmijnbfdhdkaa.P
open Go.RowKit Go.Proofs.YtnlmijnbfdhdkaaW.PrintWords Go.Proofs.YtnlmijnbfdhdkaaW.PrintLast Go.Proofs.YtnlmijnbfdhdkaaW.PrintMore
set_option linter.unusedVariables false

def kindI (a : Int) (e : List S88) (c : Int) (l : List Int) : Bool := if c = 1 then coverI e l else if c = 2 then cliN e l l.length 0 else domN e l a.toNat 0
theorem l4Has_ev (a : Int) (e : List S88) (c : Int) (l : List Int) (he : e.length ≤ 1048576) (hl : l.length ≤ 1048576) (h8 : a ≤ 8) : Ev (fun k => spec_l4Has.f k a e c l) (kindI a e c l) := by
  unfold spec_l4Has.f kindI
  by_cases c1 : c = 1
  · rw [if_pos c1]
    exact Ev.pos c1 (cover_loop a e l he hl e.length 0 (by omega) (Nat.zero_le _))
  · rw [if_neg c1]
    by_cases c2 : c = 2
    · rw [if_pos c2]
      exact Ev.neg c1 (Ev.pos c2 (sCli_loop a e l he hl l.length 0 (by omega) (Nat.zero_le _)))
    · rw [if_neg c2]
      exact Ev.neg c1 (Ev.neg c2 (sDom_loop a e l he hl h8 a.toNat 0 (by omega) (by omega)))
theorem hasKind_ev (a : Int) (e : List S88) (c : Int) (l : List Int) (he : e.length ≤ 1048576) (hl : l.length ≤ 1048576) (hg : okG a e = true) (hr : risI 0 (wrap64 (a - 1)) none l = true) : Ev (fun k => impl_Graph_hasKind.f k a e c (bagI 0 l)) (kindI a e c l) := by
  have h1 := okG_all hg
  have hu : ∀ s ∈ e, s.f0 < s.f1 := fun s hs => (h1.2.2 s hs).2.1
  have hx := set_small hg hr
  have hw : wrap64 (a - 1) = a - 1 := wrap_nat (by omega) (by omega)
  unfold impl_Graph_hasKind.f kindI
  by_cases c1 : c = 1
  · rw [if_pos c1]
    refine Ev.pos c1 (Ev.bindo (a := allI a) ?_ (Ev.bindo (cover_free hg hx) (Ev.now _)))
    unfold impl_Graph_all.f
    rw [if_pos h1.1]
    rfl
  · rw [if_neg c1]
    by_cases c2 : c = 2
    · rw [if_pos c2]
      refine Ev.neg c1 (Ev.pos c2 (Ev.bind (bag_list_ev _) ?_))
      rw [bag_list_self (risI_wide (by omega) l none hr)]
      exact iCli_loop a e l he hl hu l.length 0 (by omega) (Nat.zero_le _)
    · rw [if_neg c2]
      exact Ev.neg c1 (Ev.neg c2 (iDom_loop a e l he h1.2.1 hg hx a.toNat 0 (by omega) (by omega)))
def kindR (a : Int) (e : List S88) (c : Int) (l : List Int) : Bool × Bool :=
  if (okG a e = true ∧ (1 ≤ c ∧ c ≤ 3)) ∧ risI 0 (wrap64 (a - 1)) none l = true then (kindI a e c l, true) else (false, false)
theorem kind_at (c : Int) : impl_isKind.f c = some (decide (1 ≤ c) && decide (c ≤ 3)) := by
  unfold impl_isKind.f
  rw [between_at, Option.bind_some]
theorem l4Kind_at (c : Int) : spec_l4Kind.f c = some (decide (1 ≤ c) && decide (c ≤ 3)) := by
  unfold spec_l4Kind.f
  rw [in_at, Option.bind_some]
theorem spec_HasKind_ev (a : Int) (e : List S88) (c : Int) (l : List Int) (he : e.length ≤ 1048576) (hl : l.length ≤ 1048576) : Ev (fun k => spec_HasKind.f k a e c l) (kindR a e c l) := by
  unfold spec_HasKind.f spec_l4Good.f kindR
  by_cases h : okG a e = true
  · by_cases hc : 1 ≤ c ∧ c ≤ 3
    · refine Ev.bind (Ev.bind (l2Good_ev a e he) (Ev.pos h (Ev.bindo (l4Kind_at c) (Ev.now _)))) (Ev.pos (by simp [hc]) (Ev.bind (l2Set_ev a e l hl) ?_))
      by_cases hr : risI 0 (wrap64 (a - 1)) none l = true
      · rw [if_pos (show (okG a e = true ∧ (1 ≤ c ∧ c ≤ 3)) ∧ risI 0 (wrap64 (a - 1)) none l = true from ⟨⟨h, hc⟩, hr⟩)]
        exact Ev.pos hr (Ev.bind (l4Has_ev a e c l he hl (okG_all h).2.1) (Ev.now _))
      · rw [if_neg (show ¬ ((okG a e = true ∧ (1 ≤ c ∧ c ≤ 3)) ∧ risI 0 (wrap64 (a - 1)) none l = true) from fun hh => hr hh.2)]
        exact Ev.neg hr (Ev.now _)
    · rw [if_neg (show ¬ ((okG a e = true ∧ (1 ≤ c ∧ c ≤ 3)) ∧ risI 0 (wrap64 (a - 1)) none l = true) from fun hh => hc hh.1.2)]
      exact Ev.bind (Ev.bind (l2Good_ev a e he) (Ev.pos h (Ev.bindo (l4Kind_at c) (Ev.now _)))) (Ev.neg (by simp; omega) (Ev.now _))
  · rw [if_neg (show ¬ ((okG a e = true ∧ (1 ≤ c ∧ c ≤ 3)) ∧ risI 0 (wrap64 (a - 1)) none l = true) from fun hh => h hh.1.1)]
    exact Ev.bind (Ev.bind (l2Good_ev a e he) (Ev.neg h (Ev.now _))) (Ev.neg (by decide) (Ev.now _))
theorem impl_HasKind_ev (a : Int) (e : List S88) (c : Int) (l : List Int) (he : e.length ≤ 1048576) (hl : l.length ≤ 1048576) : Ev (fun k => impl_HasKind.f k a e c l) (kindR a e c l) := by
  unfold impl_HasKind.f impl_isSetCase.f kindR
  by_cases h : okG a e = true
  · by_cases hc : 1 ≤ c ∧ c ≤ 3
    · refine Ev.bind (Ev.bind (impl_IsGraph_ev a e he) (Ev.pos h (Ev.bindo (kind_at c) (Ev.pos (by simp [hc]) (Ev.bind (rising_ev l a hl) (Ev.now _)))))) ?_
      by_cases hr : risI 0 (wrap64 (a - 1)) none l = true
      · rw [if_pos (show (okG a e = true ∧ (1 ≤ c ∧ c ≤ 3)) ∧ risI 0 (wrap64 (a - 1)) none l = true from ⟨⟨h, hc⟩, hr⟩)]
        exact Ev.pos hr (Ev.bind (bagOf_ev l hl (set_small h hr)) (Ev.bind (hasKind_ev a e c l he hl h hr) (Ev.now _)))
      · rw [if_neg (show ¬ ((okG a e = true ∧ (1 ≤ c ∧ c ≤ 3)) ∧ risI 0 (wrap64 (a - 1)) none l = true) from fun hh => hr hh.2)]
        exact Ev.neg hr (Ev.now _)
    · rw [if_neg (show ¬ ((okG a e = true ∧ (1 ≤ c ∧ c ≤ 3)) ∧ risI 0 (wrap64 (a - 1)) none l = true) from fun hh => hc hh.1.2)]
      exact Ev.bind (Ev.bind (impl_IsGraph_ev a e he) (Ev.pos h (Ev.bindo (kind_at c) (Ev.neg (by simp; omega) (Ev.now _))))) (Ev.neg (by decide) (Ev.now _))
  · rw [if_neg (show ¬ ((okG a e = true ∧ (1 ≤ c ∧ c ≤ 3)) ∧ risI 0 (wrap64 (a - 1)) none l = true) from fun hh => h hh.1.1)]
    exact Ev.bind (Ev.bind (impl_IsGraph_ev a e he) (Ev.neg h (Ev.now _))) (Ev.neg (by decide) (Ev.now _))
end Go.Proofs.Ytnlmijnbfdhdkaa.P
namespace Go.Proofs.Ytnlmijnbfdhdkaa.P
open Go.RowKit Go.Proofs.YtnlmijnbfdhdkaaW.PrintWords Go.Proofs.YtnlmijnbfdhdkaaW.PrintLast Go.Proofs.YtnlmijnbfdhdkaaW.PrintMore
set_option linter.unusedVariables false
set_option linter.unusedSimpArgs false

def xorI (b x : Int) : Int := Go.bits .xor .u64 b (shl .u64 1 x)
theorem xorI_fin : ∀ b : Fin 256, ∀ x : Fin 8, (0 ≤ xorI b x ∧ xorI b x < 256) ∧ ∀ y : Fin 8, hasI (xorI b x) y = (hasI b y != decide (y = x)) := by decide +kernel
theorem xorI_at {b x : Int} (hb : 0 ≤ b ∧ b < 256) (hx : 0 ≤ x ∧ x < 8) : (0 ≤ xorI b x ∧ xorI b x < 256) ∧ ∀ y, 0 ≤ y → y < 8 → hasI (xorI b x) y = (hasI b y != decide (y = x)) := by
  obtain ⟨i, rfl⟩ := fin_of (n := 256) hb.1 hb.2
  obtain ⟨j, rfl⟩ := fin_of (n := 8) hx.1 hx.2
  have h := xorI_fin i j
  refine ⟨h.1, fun y h0 h8 => ?_⟩
  obtain ⟨q, rfl⟩ := fin_of (n := 8) h0 h8
  rw [h.2 q]
  congr 1
  rw [decide_eq_decide]
  omega
theorem bag_ext {b c : Int} (hb : 0 ≤ b ∧ b < 256) (hc : 0 ≤ c ∧ c < 256) (h : ∀ y : Int, 0 ≤ y → y < 8 → hasI b y = hasI c y) : b = c := by
  obtain ⟨n, rfl⟩ := Int.eq_ofNat_of_zero_le hb.1
  obtain ⟨m, rfl⟩ := Int.eq_ofNat_of_zero_le hc.1
  have hn : n < 256 := by omega
  have hm : m < 256 := by omega
  have : n = m := by
    refine Nat.eq_of_testBit_eq fun q => ?_
    by_cases hq : q < 8
    · have := h (q : Int) (by omega) (by omega)
      rwa [hasI_bit n q hn hq, hasI_bit m q hm hq] at this
    · have hp : 256 ≤ 2 ^ q := by show 2 ^ 8 ≤ 2 ^ q; exact Nat.pow_le_pow_right (by decide) (by omega)
      rw [Nat.testBit_lt_two_pow (Nat.lt_of_lt_of_le hn hp), Nat.testBit_lt_two_pow (Nat.lt_of_lt_of_le hm hp)]
  rw [this]
theorem risI_pw (lo hi : Int) (l : List Int) : ∀ p, risI lo hi p l = true → l.Pairwise (· < ·) ∧ ∀ q, p = some q → ∀ x ∈ l, q < x := by
  induction l with
  | nil => intro p _; exact ⟨.nil, fun _ _ x hx => by cases hx⟩
  | cons y t ih =>
    intro p h
    simp only [risI, Bool.and_eq_true, decide_eq_true_eq] at h
    obtain ⟨_, h2, h3⟩ := h
    obtain ⟨i1, i2⟩ := ih _ h3
    refine ⟨List.pairwise_cons.2 ⟨fun x hx => i2 y rfl x hx, i1⟩, fun q hq x hx => ?_⟩
    subst hq
    have h4 : q < y := by simpa using h2
    rcases List.mem_cons.1 hx with rfl | hx
    · exact h4
    · have := i2 y rfl x hx; omega
theorem risI_of (lo hi : Int) (l : List Int) : ∀ p, l.Pairwise (· < ·) → (∀ x ∈ l, lo ≤ x ∧ x ≤ hi) → (∀ q, p = some q → ∀ x ∈ l, q < x) → risI lo hi p l = true := by
  induction l with
  | nil => intro p _ _ _; cases p <;> rfl
  | cons y t ih =>
    intro p hp hb hq
    obtain ⟨h1, h2⟩ := List.pairwise_cons.1 hp
    have hy := hb y (.head _)
    have ih' := ih (some y) h2 (fun x hx => hb x (.tail _ hx)) (fun q e x hx => by injection e with e; subst e; exact h1 x hx)
    cases p with
    | none => simp only [risI, Bool.and_eq_true, decide_eq_true_eq, true_and]; exact ⟨hy, ih'⟩
    | some q => simp only [risI, Bool.and_eq_true, decide_eq_true_eq]; exact ⟨hy, hq q rfl y (.head _), ih'⟩
theorem without_loop (l : List Int) (hl : l.length ≤ 1048576) (x : Int) (d : Nat) : ∀ (m : Nat) (acc : List Int), l.length - m = d → m ≤ l.length → acc.length ≤ m → Ev (fun k => spec_l4Without.l0 k l x acc (m : Int)) (acc ++ (l.drop m).filter fun y => decide (y ≠ x)) := by
  induction d with
  | zero =>
    intro m acc h0 h1 h2
    rw [List.drop_eq_nil_of_le (by omega), List.filter_nil, List.append_nil]
    refine Ev.step (fun k => by rw [spec_l4Without.l0]) ?_
    exact Ev.neg (by omega) (Ev.now _)
  | succ d ih =>
    intro m acc h0 h1 h2
    have hm : m < l.length := by omega
    refine Ev.step (fun k => by rw [spec_l4Without.l0]) ?_
    refine Ev.pos (by omega) ?_
    refine Ev.pos (by omega) ?_
    rw [rd_at l m hm, List.drop_eq_getElem_cons hm]
    by_cases c : l[m] = x
    · rw [List.filter_cons_of_neg (by simp [c])]
      refine Ev.pos c ?_
      have := ih (m + 1) acc (by omega) (by omega) (by omega)
      rw [← wrap_up hm (by omega)] at this
      exact this
    · rw [List.filter_cons_of_pos (by simp [c])]
      refine Ev.neg c ?_
      refine Ev.pos (by omega) ?_
      have := ih (m + 1) (acc ++ [l[m]]) (by omega) (by omega) (by simp; omega)
      rw [← wrap_up hm (by omega), List.append_assoc, List.singleton_append] at this
      exact this
theorem put_loop (l : List Int) (hl : l.length ≤ 1048576) (x : Int) (hx : x ∉ l) (d : Nat) : ∀ (m : Nat), l.length - m = d → m ≤ l.length → (∀ y ∈ l.take m, y < x) → ∃ q, q ≤ l.length ∧ (∀ y ∈ l.take q, y < x) ∧ (∀ h : q < l.length, x < l[q]) ∧ Ev (fun k => spec_l1Put.l0 k l x (m : Int)) (l.take q ++ [x] ++ l.drop q) := by
  induction d with
  | zero =>
    intro m h0 h1 h2
    refine ⟨m, h1, h2, fun h => by omega, ?_⟩
    refine Ev.step (fun k => by rw [spec_l1Put.l0]) ?_
    refine Ev.neg (by omega) ?_
    refine Ev.bindo rfl ?_
    refine Ev.pos (by omega) ?_
    refine Ev.pos (by omega) ?_
    rw [Int.toNat_natCast]
    have hl1 : (l.take m).length ≤ l.length := by rw [List.length_take]; omega
    have hl2 : (l.drop m).length ≤ l.length := by rw [List.length_drop]; omega
    refine Ev.pos (by simp only [List.length_nil]; omega) ?_
    refine Ev.bindo rfl ?_
    refine Ev.bindo rfl ?_
    refine Ev.pos (by simp only [List.nil_append, List.length_singleton]; omega) ?_
    refine Ev.bindo rfl ?_
    refine Ev.pos (by simp only [List.nil_append, List.length_append, List.length_singleton]; omega) ?_
    exact Ev.now _
  | succ d ih =>
    intro m h0 h1 h2
    have hm : m < l.length := by omega
    have hne : l[m] ≠ x := fun e => hx (e ▸ List.getElem_mem hm)
    by_cases c : l[m] < x
    · obtain ⟨q, q1, q2, q3, q4⟩ := ih (m + 1) (by omega) (by omega) (fun y hy => by
        rw [List.take_add_one, List.getElem?_eq_getElem hm] at hy
        rcases List.mem_append.1 hy with hy | hy
        · exact h2 y hy
        · rw [show y = l[m] by simpa using hy]; exact c)
      rw [← wrap_up hm (by omega)] at q4
      refine ⟨q, q1, q2, q3, ?_⟩
      refine Ev.step (fun k => by rw [spec_l1Put.l0]) ?_
      refine Ev.pos (by omega) ?_
      refine Ev.pos (by omega) ?_
      rw [rd_at l m hm]
      refine Ev.pos c ?_
      exact q4
    · refine ⟨m, h1, h2, fun h => by omega, ?_⟩
      refine Ev.step (fun k => by rw [spec_l1Put.l0]) ?_
      refine Ev.pos (by omega) ?_
      refine Ev.pos (by omega) ?_
      rw [rd_at l m hm]
      refine Ev.neg c ?_
      refine Ev.neg hne ?_
      refine Ev.bindo rfl ?_
      refine Ev.pos (by omega) ?_
      rw [Int.toNat_natCast]
      have hl1 : (l.take m).length ≤ l.length := by rw [List.length_take]; omega
      have hl2 : (l.drop m).length ≤ l.length := by rw [List.length_drop]; omega
      refine Ev.pos (by simp only [List.length_nil]; omega) ?_
      refine Ev.bindo rfl ?_
      refine Ev.bindo rfl ?_
      refine Ev.pos (by simp only [List.nil_append, List.length_singleton]; omega) ?_
      refine Ev.bindo rfl ?_
      refine Ev.pos (by simp only [List.nil_append, List.length_append, List.length_singleton]; omega) ?_
      exact Ev.now _
/-- What the turned set is. -/
theorem turned_ev (l : List Int) (hl : l.length ≤ 1048575) (hp : l.Pairwise (· < ·)) (x : Int) : ∃ R, Ev (fun k => spec_l4Turned.f k l x) R ∧ R.Pairwise (· < ·) ∧ R.length ≤ l.length + 1 ∧ ∀ y, y ∈ R ↔ (y ∈ l ∧ y ≠ x) ∨ (y = x ∧ x ∉ l) := by
  by_cases hx : x ∈ l
  · refine ⟨l.filter fun y => decide (y ≠ x), ?_, hp.filter _, Nat.le_succ_of_le (List.length_filter_le _ _), fun y => ?_⟩
    · unfold spec_l4Turned.f
      refine Ev.bind (l1Has_ev l x (by omega)) ?_
      refine Ev.pos (decide_eq_true hx) ?_
      refine Ev.bind (a := l.filter fun y => decide (y ≠ x)) ?_ (Ev.now _)
      have := without_loop l (by omega) x (l.length - 0) 0 [] rfl (Nat.zero_le _) (Nat.zero_le _)
      simp only [Int.natCast_zero, List.drop_zero, List.nil_append] at this
      exact this
    · rw [List.mem_filter, decide_eq_true_eq]
      exact ⟨fun h => .inl h, fun h => h.elim id fun h => absurd hx h.2⟩
  · obtain ⟨q, q1, q2, q3, q4⟩ := put_loop l (by omega) x hx (l.length - 0) 0 rfl (Nat.zero_le _) (fun y hy => by simp at hy)
    simp only [Int.natCast_zero] at q4
    refine ⟨l.take q ++ [x] ++ l.drop q, ?_, ?_, ?_, fun y => ?_⟩
    · unfold spec_l4Turned.f
      refine Ev.bind (l1Has_ev l x (by omega)) ?_
      refine Ev.neg (by rw [decide_eq_false hx]; decide) ?_
      exact Ev.bind q4 (Ev.now _)
    · have hd : ∀ y ∈ l.drop q, x < y := fun y hy => by
        have hq : q < l.length := by
          rcases Nat.lt_or_ge q l.length with h | h
          · exact h
          · rw [List.drop_eq_nil_of_le h] at hy; cases hy
        have h3 := q3 hq
        have h4 := hp.sublist (List.drop_sublist q l)
        rw [List.drop_eq_getElem_cons hq] at hy h4
        rcases List.mem_cons.1 hy with rfl | hy
        · exact h3
        · have := (List.pairwise_cons.1 h4).1 y hy; omega
      rw [List.append_assoc, List.pairwise_append]
      refine ⟨hp.sublist (List.take_sublist q l), ?_, fun a ha b hb => ?_⟩
      · rw [List.singleton_append, List.pairwise_cons]
        exact ⟨hd, hp.sublist (List.drop_sublist q l)⟩
      · have h1 := q2 a ha
        rw [List.singleton_append] at hb
        rcases List.mem_cons.1 hb with rfl | hb
        · exact h1
        · have := hd b hb; omega
    · rw [List.length_append, List.length_append, List.length_take, List.length_drop, List.length_singleton]; omega
    · have e : y ∈ l ↔ y ∈ l.take q ∨ y ∈ l.drop q := by rw [← List.mem_append, List.take_append_drop]
      rw [List.mem_append, List.mem_append, List.mem_singleton]
      constructor
      · rintro ((h | h) | h)
        · exact .inl ⟨e.2 (.inl h), fun e' => hx (e' ▸ e.2 (.inl h))⟩
        · exact .inr ⟨h, hx⟩
        · exact .inl ⟨e.2 (.inr h), fun e' => hx (e' ▸ e.2 (.inr h))⟩
      · rintro (h | h)
        · rcases e.1 h.1 with h' | h'
          · exact .inl (.inl h')
          · exact .inr h'
        · exact .inl (.inr h.1)
theorem rising_len (l : List Int) : ∀ (lo hi : Int), l.Pairwise (· < ·) → (∀ x ∈ l, lo ≤ x ∧ x ≤ hi) → l.length ≤ (hi + 1 - lo).toNat := by
  induction l with
  | nil => intro lo hi _ _; exact Nat.zero_le _
  | cons x t ih =>
    intro lo hi hp hb
    obtain ⟨h1, h2⟩ := List.pairwise_cons.1 hp
    have hx := hb x (.head _)
    have := ih (x + 1) hi h2 (fun y hy => ⟨by have := h1 y hy; omega, (hb y (.tail _ hy)).2⟩)
    rw [List.length_cons]
    omega
end Go.Proofs.Ytnlmijnbfdhdkaa.P
namespace Go.Proofs.Ytnlmijnbfdhdkaa.P
open Go.RowKit Go.Proofs.YtnlmijnbfdhdkaaW.PrintWords Go.Proofs.YtnlmijnbfdhdkaaW.PrintLast Go.Proofs.YtnlmijnbfdhdkaaW.PrintMore
set_option linter.unusedVariables false
set_option linter.unusedSimpArgs false

theorem l4One_ev (a : Int) (e : List S88) (c : Int) (l : List Int) (he : e.length ≤ 1048576) (hl : l.length ≤ 1048576) : Ev (fun k => spec_l4One.f k a e c l) ((kindR a e c l).1 && (kindR a e c l).2) := by
  unfold spec_l4One.f
  refine Ev.bind (spec_HasKind_ev a e c l he hl) ?_
  cases h : (kindR a e c l).1 with
  | true =>
    refine Ev.pos rfl ?_
    rw [Bool.true_and]
    exact Ev.now _
  | false => exact Ev.neg (by decide) (Ev.now _)
theorem isOfKind_ev (a : Int) (e : List S88) (c : Int) (l : List Int) (he : e.length ≤ 1048576) (hl : l.length ≤ 1048576) : Ev (fun k => impl_isOfKind.f k a e c l) (kindR a e c l).1 := by
  unfold impl_isOfKind.f
  exact Ev.bind (impl_HasKind_ev a e c l he hl) (Ev.now _)
theorem kindR_good {a : Int} {e : List S88} {c : Int} {l : List Int} (h : (kindR a e c l).1 = true) : (kindR a e c l).2 = true ∧ okG a e = true ∧ risI 0 (wrap64 (a - 1)) none l = true := by
  unfold kindR at h ⊢
  by_cases h1 : (okG a e = true ∧ (1 ≤ c ∧ c ≤ 3)) ∧ risI 0 (wrap64 (a - 1)) none l = true
  · rw [if_pos h1] at h ⊢
    exact ⟨rfl, h1.1.1, h1.2⟩
  · rw [if_neg h1] at h
    cases h
section
variable (a : Int) (e : List S88) (c : Int) (l : List Int) (he : e.length ≤ 1048576) (hl : l.length ≤ 1048576) (hg : okG a e = true) (hr : risI 0 (wrap64 (a - 1)) none l = true)
include he hl hg hr
end
end Go.Proofs.Ytnlmijnbfdhdkaa.P
namespace Go.Proofs.Ytnlmijnbfdhdkaa.P
open Go.RowKit Go.Proofs.YtnlmijnbfdhdkaaW.PrintWords Go.Proofs.YtnlmijnbfdhdkaaW.PrintLast Go.Proofs.YtnlmijnbfdhdkaaW.PrintMore
set_option linter.unusedVariables false
set_option linter.unusedSimpArgs false

theorem pw_ext : ∀ (l m : List Int), l.Pairwise (· < ·) → m.Pairwise (· < ·) → (∀ y, y ∈ l ↔ y ∈ m) → l = m := by
  intro l
  induction l with
  | nil =>
    intro m _ _ h
    cases m with
    | nil => rfl
    | cons y t => exact absurd ((h y).2 (.head _)) (by simp)
  | cons x s ih =>
    intro m hl hm h
    cases m with
    | nil => exact absurd ((h x).1 (.head _)) (by simp)
    | cons y t =>
      obtain ⟨a1, a2⟩ := List.pairwise_cons.1 hl
      obtain ⟨b1, b2⟩ := List.pairwise_cons.1 hm
      have e : x = y := by
        rcases List.mem_cons.1 ((h x).1 (.head _)) with e | e
        · exact e
        rcases List.mem_cons.1 ((h y).2 (.head _)) with e' | e'
        · exact e'.symm
        have := b1 x e
        have := a1 y e'
        omega
      subst e
      rw [ih t a2 b2 fun z => ⟨fun hz => ?_, fun hz => ?_⟩]
      · rcases List.mem_cons.1 ((h z).1 (.tail _ hz)) with e | e
        · have := a1 z hz; omega
        · exact e
      · rcases List.mem_cons.1 ((h z).2 (.tail _ hz)) with e | e
        · have := b1 z hz; omega
        · exact e
theorem selI_pw (f : Int → Bool) (d : Nat) : ∀ y, (selI f d y).Pairwise (· < ·) := by
  induction d with
  | zero => intro y; exact .nil
  | succ d ih =>
    intro y
    have h := selI_add f 1 d y
    rw [Nat.add_comm] at h
    rw [h, List.pairwise_append]
    refine ⟨?_, ih _, fun a ha b hb => ?_⟩
    · have hl := selI_len f 1 y
      match hs : selI f 1 y with
      | [] => exact .nil
      | [z] => exact List.pairwise_singleton _ _
      | z :: w :: t => rw [hs] at hl; simp at hl
    · have h1 := (selI_mem f 1 y a).1 ha
      have h2 := (selI_mem f d _ b).1 hb
      omega
/-- The list of a set's bag is the set. -/
theorem list_bag {l : List Int} (hp : l.Pairwise (· < ·)) (hx : ∀ x ∈ l, 0 ≤ x ∧ x < 8) : selI (hasI (bagI 0 l)) 8 0 = l := by
  have hB := bagI_at l 0 (by omega) hx
  refine pw_ext _ _ (selI_pw _ _ _) hp fun y => ?_
  rw [selI_mem]
  constructor
  · rintro ⟨h1, h2⟩
    rw [hB.2 y (by omega) (by omega), hasI_nil (by omega) (by omega), Bool.false_or, decide_eq_true_eq] at h2
    exact h2
  · intro h
    have := hx y h
    refine ⟨by omega, ?_⟩
    rw [hB.2 y (by omega) (by omega), hasI_nil (by omega) (by omega), Bool.false_or, decide_eq_true_eq]
    exact h
/-- Both sides' test of the turned set; the turned set is a set again. -/
theorem turned_more (a : Int) (e : List S88) (c : Int) (l : List Int) (he : e.length ≤ 1048576) (hl : l.length ≤ 1048576) (hg : okG a e = true) (hr : risI 0 (wrap64 (a - 1)) none l = true) (x : Int) (hx : 0 ≤ x ∧ x < a) :
    ∃ (R : List Int) (b : Bool), Ev (fun k => spec_l4Turned.f k l x) R ∧ Ev (fun k => spec_l4Has.f k a e c R) b ∧ Ev (fun k => impl_Graph_hasKind.f k a e c (Go.bits .xor .u64 (bagI 0 l) (shl .u64 1 x))) b ∧ R.length ≤ 8 ∧ risI 0 (wrap64 (a - 1)) none R = true ∧ Go.bits .xor .u64 (bagI 0 l) (shl .u64 1 x) = bagI 0 R := by
  have h1 := okG_all hg
  have hw : wrap64 (a - 1) = a - 1 := wrap_nat (by omega) (by omega)
  have hsm := set_small hg hr
  have hp := (risI_pw 0 (wrap64 (a - 1)) l none hr).1
  have hb0 := risI_all 0 (wrap64 (a - 1)) l none hr
  have hlen : l.length ≤ 8 := by
    have := rising_len l 0 7 hp (fun y hy => by have := hsm y hy; omega)
    omega
  obtain ⟨R, r1, r2, r3, r4⟩ := turned_ev l (by omega) hp x
  have hR : ∀ y ∈ R, 0 ≤ y ∧ y ≤ wrap64 (a - 1) := fun y hy => by
    rcases (r4 y).1 hy with h | h
    · exact hb0 y h.1
    · rw [hw]; omega
  have hrR := risI_of 0 (wrap64 (a - 1)) R none r2 hR (fun q e => by cases e)
  have hsR := set_small hg hrR
  have hlR : R.length ≤ 8 := by
    have := rising_len R 0 7 r2 (fun y hy => by have := hsR y hy; omega)
    omega
  have hB := bagI_at l 0 (by omega) hsm
  have hX := xorI_at hB.1 (x := x) (by omega)
  have hBR := bagI_at R 0 (by omega) (set_small hg hrR)
  have heq : Go.bits .xor .u64 (bagI 0 l) (shl .u64 1 x) = bagI 0 R := by
    refine bag_ext hX.1 hBR.1 fun y h0 h8 => ?_
    show hasI (xorI (bagI 0 l) x) y = _
    rw [hX.2 y h0 h8, hB.2 y h0 h8, hBR.2 y h0 h8, hasI_nil h0 h8, Bool.false_or, Bool.false_or, Bool.eq_iff_iff, bne_iff_ne, decide_eq_true_eq, r4]
    by_cases c1 : y ∈ l
    · by_cases c2 : y = x
      · subst c2; simp [c1]
      · simp [c1, c2]
    · by_cases c2 : y = x
      · subst c2; simp [c1]
      · simp [c1, c2]
  refine ⟨R, kindI a e c R, r1, l4Has_ev a e c R he (by omega) h1.2.1, ?_, hlR, hrR, heq⟩
  rw [heq]
  exact hasKind_ev a e c R he (by omega) hg hrR
theorem greedy_loop (a : Int) (e : List S88) (c : Int) (he : e.length ≤ 1048576) (hg : okG a e = true) (d : Nat) : ∀ (x : Int) (l : List Int), (a - x).toNat = d → 0 ≤ x → l.length ≤ 1048576 → risI 0 (wrap64 (a - 1)) none l = true → ∃ R : List Int, R.length ≤ 1048576 ∧ Ev (fun k => spec_GreedyTight.l0 k c l x a e) (R, true) ∧ Ev (fun k => impl_GreedyTight.l0 k c (bagI 0 l) a x a e) (R, true) := by
  have h1 := okG_all hg
  induction d with
  | zero =>
    intro x l h0 hx hl hr
    refine ⟨l, hl, ?_, ?_⟩
    · refine Ev.step (fun k => by rw [spec_GreedyTight.l0]) ?_
      exact Ev.neg (by omega) (Ev.now _)
    · refine Ev.step (fun k => by rw [impl_GreedyTight.l0]) ?_
      refine Ev.neg (by omega) ?_
      have h2 := bag_list_ev (bagI 0 l)
      rw [list_bag (risI_pw 0 (wrap64 (a - 1)) l none hr).1 (set_small hg hr)] at h2
      exact Ev.bind h2 (Ev.now _)
  | succ d ih =>
    intro x l h0 hx hl hr
    have hxa : x < a := by omega
    have hw : wrap64 (x + 1) = x + 1 := wrap_nat (by omega) (by omega)
    have hB := bagI_at l 0 (by omega) (set_small hg hr)
    have hh : impl_bag_has.f (bagI 0 l) x = some (decide (x ∈ l)) := by
      rw [bag_has_at hx, hB.2 x hx (by omega), hasI_nil hx (by omega), Bool.false_or]
    obtain ⟨T, b, t1, t2, t3, t4, t5, t6⟩ := turned_more a e c l he hl hg hr x ⟨hx, hxa⟩
    by_cases hc : (decide (x ∈ l) == (c != 2)) = true
    · have hc' : (decide (x ∈ l) != (c == 2)) = true := by
        rw [← hc]
        cases decide (x ∈ l) <;> cases h : (c == 2) <;> simp [bne, h]
      cases b with
      | true =>
        obtain ⟨R, r0, r1, r2⟩ := ih (x + 1) T (by omega) (by omega) (by omega) t5
        rw [← hw] at r1 r2
        refine ⟨R, r0, ?_, ?_⟩
        · refine Ev.step (fun k => by rw [spec_GreedyTight.l0]) ?_
          refine Ev.pos hxa ?_
          refine Ev.bind (l1Has_ev l x hl) ?_
          refine Ev.pos hc ?_
          refine Ev.bind t1 ?_
          refine Ev.bind t2 ?_
          refine Ev.pos rfl ?_
          refine Ev.bind t1 ?_
          exact r1
        · rw [← t6] at r2
          refine Ev.step (fun k => by rw [impl_GreedyTight.l0]) ?_
          refine Ev.pos hxa ?_
          refine Ev.bindo hh ?_
          refine Ev.pos hc' ?_
          refine Ev.pos hx ?_
          refine Ev.bind t3 ?_
          refine Ev.pos rfl ?_
          exact r2
      | false =>
        obtain ⟨R, r0, r1, r2⟩ := ih (x + 1) l (by omega) (by omega) hl hr
        rw [← hw] at r1 r2
        refine ⟨R, r0, ?_, ?_⟩
        · refine Ev.step (fun k => by rw [spec_GreedyTight.l0]) ?_
          refine Ev.pos hxa ?_
          refine Ev.bind (l1Has_ev l x hl) ?_
          refine Ev.pos hc ?_
          refine Ev.bind t1 ?_
          refine Ev.bind t2 ?_
          refine Ev.neg (by decide) ?_
          exact r1
        · refine Ev.step (fun k => by rw [impl_GreedyTight.l0]) ?_
          refine Ev.pos hxa ?_
          refine Ev.bindo hh ?_
          refine Ev.pos hc' ?_
          refine Ev.pos hx ?_
          refine Ev.bind t3 ?_
          refine Ev.neg (by decide) ?_
          exact r2
    · have hc' : ¬ (decide (x ∈ l) != (c == 2)) = true := by
        intro h'
        apply hc
        rw [← h']
        cases decide (x ∈ l) <;> cases h : (c == 2) <;> simp [bne, h]
      obtain ⟨R, r0, r1, r2⟩ := ih (x + 1) l (by omega) (by omega) hl hr
      rw [← hw] at r1 r2
      refine ⟨R, r0, ?_, ?_⟩
      · refine Ev.step (fun k => by rw [spec_GreedyTight.l0]) ?_
        refine Ev.pos hxa ?_
        refine Ev.bind (l1Has_ev l x hl) ?_
        refine Ev.neg hc ?_
        exact r1
      · refine Ev.step (fun k => by rw [impl_GreedyTight.l0]) ?_
        refine Ev.pos hxa ?_
        refine Ev.bindo hh ?_
        refine Ev.neg hc' ?_
        exact r2
theorem Both_FnExactGreedyTight (a0_0 : Int) (l0_1 : List S88) (a1 : Int) (l2 : List Int) (w0_0 : (Lit.int .i64 a0_0).wf = true) (w0_1 : FitP l0_1) (w1 : (Lit.int .i64 a1).wf = true) (w2 : FitL l2) (hn0 : l0_1.length ≤ 1048576) (hl2 : l2.length ≤ 1048576) : ∃ (q0 : List Int) (q1 : Bool), Ev (fun k => spec_GreedyTight.f k a0_0 l0_1 a1 l2) (q0, q1) ∧ Ev (fun k => impl_GreedyTight.f k a0_0 l0_1 a1 l2) (q0, q1) ∧ q0.length ≤ 1048576 := by
  have hs := l4One_ev a0_0 l0_1 a1 l2 hn0 hl2
  have hi := isOfKind_ev a0_0 l0_1 a1 l2 hn0 hl2
  cases h : (kindR a0_0 l0_1 a1 l2).1 with
  | true =>
    obtain ⟨g1, g2, g3⟩ := kindR_good h
    rw [h, g1] at hs
    rw [h] at hi
    obtain ⟨R, r0, r1, r2⟩ := greedy_loop a0_0 l0_1 a1 hn0 g2 (a0_0 - 0).toNat 0 l2 rfl (Int.le_refl _) hl2 g3
    refine ⟨R, true, ?_, ?_, r0⟩
    · unfold spec_GreedyTight.f
      refine Ev.bind hs ?_
      refine Ev.pos rfl ?_
      refine Ev.bindo (show spec_l1Own.f l2 = some l2 by unfold spec_l1Own.f; show (if _ then _ else _) = _; rw [if_pos (by simp only [List.length_nil]; omega)]; rfl) ?_
      exact r1
    · unfold impl_GreedyTight.f
      refine Ev.bind hi ?_
      refine Ev.pos rfl ?_
      refine Ev.bind (bagOf_ev l2 hl2 (set_small g2 g3)) ?_
      exact r2
  | false =>
    rw [h, Bool.false_and] at hs
    rw [h] at hi
    refine ⟨[], false, ?_, ?_, Nat.zero_le _⟩
    · unfold spec_GreedyTight.f
      refine Ev.bind hs ?_
      exact Ev.neg (by decide) (Ev.now _)
    · unfold impl_GreedyTight.f
      refine Ev.bind hi ?_
      exact Ev.neg (by decide) (Ev.now _)
end Go.Proofs.Ytnlmijnbfdhdkaa.P
namespace Go.Proofs.Ytnlmijnbfdhdkaa.P
open Go.RowKit Go.Proofs.YtnlmijnbfdhdkaaW.PrintWords Go.Proofs.YtnlmijnbfdhdkaaW.PrintLast Go.Proofs.YtnlmijnbfdhdkaaW.PrintMore
set_option linter.unusedVariables false
set_option linter.unusedSimpArgs false

/-- A space of moderate size. -/
def modS (l : List (List Int)) (e : List S88) : Prop := l.length ≤ 1048576 ∧ (∀ s ∈ l, s.length ≤ 1048576) ∧ e.length ≤ 1048576
section
variable (l : List (List Int)) (e : List S88) (h : modS l e)
include h
end
end Go.Proofs.Ytnlmijnbfdhdkaa.P
namespace Go.Proofs.Ytnlmijnbfdhdkaa.P
open Go.RowKit Go.Proofs.YtnlmijnbfdhdkaaW.PrintWords Go.Proofs.YtnlmijnbfdhdkaaW.PrintLast Go.Proofs.YtnlmijnbfdhdkaaW.PrintMore
set_option linter.unusedVariables false
set_option linter.unusedSimpArgs false

def seqI : Nat → Int → List Int
  | 0, _ => []
  | n + 1, k => k :: seqI n (wrap64 (k + 1))
def endI : Nat → Int → Int
  | 0, k => k
  | n + 1, k => endI n (wrap64 (k + 1))
theorem seqI_len (n : Nat) : ∀ k, (seqI n k).length = n := by
  induction n with
  | zero => intro k; rfl
  | succ n ih => intro k; simp [seqI, ih]
theorem endI_at (n : Nat) : ∀ k, 0 ≤ k → k + (n : Int) ≤ 4611686018427387904 → endI n k = k + (n : Int) := by
  induction n with
  | zero => intro k h1 h2; simp [endI]
  | succ n ih =>
    intro k h1 h2
    have e1 : wrap64 (k + 1) = k + 1 := wrap_nat (by omega) (by omega)
    rw [endI, e1, ih (k + 1) (by omega) (by omega)]
    omega
theorem markInt_loop (d : Nat) : ∀ (done rest : List Int) (c : Int), rest.length = d → done.length + d ≤ 1048576 →
    Ev (fun k => laws_markIntS.l0 k (done ++ rest) c (done.length : Int)) (endI d c, done ++ seqI d c) := by
  induction d with
  | zero =>
    intro done rest c h0 h1
    refine Ev.step (fun k => by rw [laws_markIntS.l0]) ?_
    have : rest = [] := List.eq_nil_of_length_eq_zero h0
    subst this
    refine Ev.neg (by simp) ?_
    exact Ev.now _
  | succ d ih =>
    intro done rest c h0 h1
    obtain ⟨x, t, rfl⟩ : ∃ x t, rest = x :: t := by
      cases rest with
      | nil => simp at h0
      | cons x t => exact ⟨x, t, rfl⟩
    have h2 : t.length = d := by simpa using h0
    refine Ev.step (fun k => by rw [laws_markIntS.l0]) ?_
    refine Ev.pos (by simp; omega) (Ev.pos (by omega) ?_)
    have e : (done ++ x :: t).set ((done.length : Int)).toNat c = (done ++ [c]) ++ t := by
      rw [Int.toNat_natCast]
      simp
    have hw : wrap64 ((done.length : Int) + 1) = ((done ++ [c]).length : Int) := by
      rw [List.length_append, List.length_singleton]
      exact wrap_up (n := done.length + 1) (by omega) (by omega)
    rw [e, hw]
    have := ih (done ++ [c]) t (wrap64 (c + 1)) h2 (by rw [List.length_append, List.length_singleton]; omega)
    simpa only [seqI, endI, List.append_assoc, List.singleton_append] using this
theorem markInt_ev (l : List Int) (c : Int) (hl : l.length ≤ 1048576) : Ev (fun k => laws_markIntS.f k l c) (endI l.length c, seqI l.length c) := by
  unfold laws_markIntS.f
  have := markInt_loop l.length [] l c rfl (by simpa using hl)
  simpa only [List.nil_append, List.length_nil, Int.ofNat_eq_natCast, Int.natCast_zero] using this
theorem heldInt_loop (d : Nat) : ∀ (done : List Int) (c : Int), done.length + d ≤ 1048576 →
    Ev (fun k => laws_heldIntS.l0 k (done ++ seqI d c) c (done.length : Int)) (endI d c) := by
  induction d with
  | zero =>
    intro done c h1
    refine Ev.step (fun k => by rw [laws_heldIntS.l0]) ?_
    refine Ev.neg (by simp [seqI]) ?_
    exact Ev.now _
  | succ d ih =>
    intro done c h1
    refine Ev.step (fun k => by rw [laws_heldIntS.l0]) ?_
    have hlen : (done ++ seqI (d + 1) c).length = done.length + (d + 1) := by rw [List.length_append, seqI_len]
    refine Ev.pos (by rw [hlen]; omega) (Ev.pos (by omega) ?_)
    have hr : rd (done ++ seqI (d + 1) c) (done.length : Int) = c := by
      rw [rd_at _ _ (by rw [hlen]; omega)]
      simp [seqI]
    refine Ev.pos hr ?_
    have hw : wrap64 ((done.length : Int) + 1) = ((done ++ [c]).length : Int) := by
      rw [List.length_append, List.length_singleton]
      exact wrap_up (n := done.length + 1) (by omega) (by omega)
    rw [hw]
    have := ih (done ++ [c]) (wrap64 (c + 1)) (by rw [List.length_append, List.length_singleton]; omega)
    simpa only [seqI, endI, List.append_assoc, List.singleton_append] using this
theorem heldInt_ev (n : Nat) (c : Int) (hn : n ≤ 1048576) : Ev (fun k => laws_heldIntS.f k (seqI n c) c) (endI n c) := by
  unfold laws_heldIntS.f
  have := heldInt_loop n [] c (by simpa using hn)
  simpa only [List.nil_append, List.length_nil, Int.ofNat_eq_natCast, Int.natCast_zero] using this
theorem end1_pos (n : Nat) (hn : n ≤ 1048576) : ¬ endI n 1 < 0 := by rw [endI_at n 1 (by omega) (by omega)]; omega
end Go.Proofs.Ytnlmijnbfdhdkaa.P
namespace Go.Proofs.Ytnlmijnbfdhdkaa.P
open Go.RowKit Go.Proofs.YtnlmijnbfdhdkaaW.PrintWords Go.Proofs.YtnlmijnbfdhdkaaW.PrintLast Go.Proofs.YtnlmijnbfdhdkaaW.PrintMore
set_option linter.unusedVariables false
set_option linter.unusedSimpArgs false

theorem end_pos (n : Nat) (k : Int) (hn : n ≤ 1048576) (h0 : 0 ≤ k) (h1 : k ≤ 2305843009213693952) : ¬ endI n k < 0 := by rw [endI_at n k h0 (by omega)]; omega
theorem markGraph_ex (a : Int) (l : List S88) (h : l.length ≤ 1048576) : ∃ k b, laws_markGraph.f a l 1 = some (k, b) ∧ ¬ k < 0 ∧ k ≤ 2251799813685248 := ⟨_, _, markGraph_at a l 1, mark1_pos l h, by rw [mark2_fst l 1 (by omega) (by omega)]; omega⟩
theorem markInt_ex (l : List Int) (c : Int) (h : l.length ≤ 1048576) (hc : 0 ≤ c ∧ c ≤ 2251799813685248) : ∃ k b n, laws_markIntS.f n l c = some (k, b) ∧ ¬ k < 0 ∧ k ≤ 2305843009213693952 := by
  obtain ⟨n, hn⟩ := Ev.rounds (markInt_ev l c h)
  exact ⟨_, _, n, hn, end_pos _ _ h hc.1 (by omega), by rw [endI_at l.length c hc.1 (by omega)]; omega⟩
theorem markInt_held (l : List Int) (h : l.length ≤ 1048576) : ∃ k b n, laws_markIntS.f n l 1 = some (k, b) ∧ ∃ m, laws_heldIntS.f m b 1 = some k ∧ ¬ k < 0 := by
  obtain ⟨n, hn⟩ := Ev.rounds (markInt_ev l 1 h)
  obtain ⟨m, hm⟩ := Ev.rounds (heldInt_ev l.length 1 h)
  exact ⟨_, _, n, hn, m, hm, end1_pos _ h⟩
end Go.Proofs.Ytnlmijnbfdhdkaa.P
namespace Go.Proofs.Ytnlmijnbfdhdkaa.P
open Go.RowKit Go.Proofs.YtnlmijnbfdhdkaaW.PrintWords Go.Proofs.YtnlmijnbfdhdkaaW.PrintLast Go.Proofs.YtnlmijnbfdhdkaaW.PrintMore
set_option linter.unusedVariables false
set_option maxHeartbeats 1000000 in
theorem Law_FnExactGreedyTight (a0_0 : Int) (A0_1 : Option Addr) (c0_1 : Nat) (l0_1 : List (S88)) (a1 : Int) (A2 : Option Addr) (c2 : Nat) (l2 : List Int) (w : World) (hr0_1 : Kd.C k88 w A0_1 l0_1.length l0_1) (hc0_1 : l0_1.length ≤ c0_1) (hr2 : Kd.C (Kd.int .i64) w A2 l2.length l2) (hc2 : l2.length ≤ c2) (w0_0 : (Lit.int .i64 a0_0).wf = true) (w0_1 : FitP l0_1) (w1 : (Lit.int .i64 a1).wf = true) (w2 : FitL l2) :
    Calls Try.prog 5 #[.agg #[.int .i64 a0_0, .slice A0_1 l0_1.length c0_1], .int .i64 a1, .slice A2 l2.length c2] w fun e w' => e = .returned (.bool true) ∧ Below w.heap.size w w' := by
  by_cases c0 : 1048576 < (l2.length : Int)
  · exact laws_FnExactGreedyTight.exit0 a0_0 A0_1 c0_1 l0_1 a1 A2 c2 l2 w hr0_1 hc0_1 hr2 hc2 c0
  have hl2 : l2.length ≤ 1048576 := by omega
  obtain ⟨t0, h0, m1⟩ := sz_graph a0_0 l0_1 w0_1.1
  by_cases c1 : t0 < 0
  · exact laws_FnExactGreedyTight.exit1 a0_0 A0_1 c0_1 l0_1 a1 A2 c2 l2 t0 w hr0_1 hc0_1 hr2 hc2 c0 c1 h0
  have hn0 := m1.resolve_left c1
  obtain ⟨q0, q1, es, ei, hb1⟩ := Both_FnExactGreedyTight a0_0 l0_1 a1 l2 w0_0 w0_1 w1 w2 hn0 hl2
  obtain ⟨k1, h1⟩ := Ev.rounds (toGraph_ev a0_0 l0_1 hn0)
  obtain ⟨k2, h2⟩ := Ev.rounds (toIntS_ev l2 hl2)
  obtain ⟨k3, h3⟩ := Ev.rounds (es)
  obtain ⟨k4, h4⟩ := Ev.rounds (ei)
  obtain ⟨k5, h5⟩ := Ev.rounds (eqIntS_ev q0 hb1)
  obtain ⟨k6, h6⟩ := Ev.rounds (eqGraph_ev a0_0 l0_1 hn0)
  obtain ⟨k7, h7⟩ := Ev.rounds (eqIntS_ev l2 hl2)
  obtain ⟨kk0, mk0_0, h8, nkk0, pkk0⟩ := markGraph_ex a0_0 l0_1 hn0
  obtain ⟨kk1, mk1_0, k9, h9, nkk1, pkk1⟩ := markInt_ex l2 kk0 hl2 ⟨by omega, pkk0⟩
  obtain ⟨kk2, mk2_0, k10, h10, k11, h11, nkk2⟩ := markInt_held q0 hb1
  exact laws_FnExactGreedyTight.walk a0_0 A0_1 c0_1 l0_1 a1 A2 c2 l2 k1 k2 k3 k4 k5 k6 k7 k9 k10 k11 t0 q0 q1 kk0 mk0_0 kk1 mk1_0 kk2 mk2_0 w hr0_1 hc0_1 hr2 hc2 c0 c1 h0 h1 h2 h3 h4 h5 h6 h7 h8 h9 h10 h11 nkk1 nkk2
end Go.Proofs.Ytnlmijnbfdhdkaa.P
