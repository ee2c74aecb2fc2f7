/- Covers, cliques and dominating sets, as both sides test them. -/
import Derived.Test.YtfaeopmofgnbdaaWideNumberG19
import Derived.Test.YtfaeopmofgnbdaaWideNumberG17
import Derived.Test.YtfaeopmofgnbdaaWideNumberG11
import Derived.Test.YtfaeopmofgnbdaaWideNumberG15
import Derived.Test.YtfaeopmofgnbdaaWideNumberG12
import Derived.Test.YtfaeopmofgnbdaaWideNumberG14
import Derived.Test.YtfaeopmofgnbdaaWideNumberG18
namespace Go.Proofs.Ytfaeopmofgnbdaa.P
open Go.RowKit Go.Proofs.YtfaeopmofgnbdaaW.PrintWords Go.Proofs.YtfaeopmofgnbdaaW.PrintLast Go.Proofs.YtfaeopmofgnbdaaW.PrintMore
set_option linter.unusedVariables false

/-! What two bags have in common. -/
theorem wraps8 (n : Int) (h0 : 0 ≤ n) (h1 : n < 2 ^ 8) : IntKind.u64.wrap n = n := by
  simp [IntKind.wrap, IntKind.bits, IntKind.signed]
  omega
theorem hasI_bit (n y : Nat) (hn : n < 256) (hy : y < 8) : hasI (n : Int) (y : Int) = n.testBit y := by
  unfold hasI shr
  have e : (n : Int) / 2 ^ min (y : Int).toNat IntKind.u64.bits = ((n / 2 ^ y : Nat) : Int) := by
    rw [Int.toNat_natCast, Nat.min_eq_left (by show y ≤ 64; omega)]
    simp
  rw [e, show (1 : Int) = ((1 : Nat) : Int) from rfl, (bits_nat .u64 8 (by decide) wraps8 (n / 2 ^ y) 1 (Nat.lt_of_le_of_lt (Nat.div_le_self _ _) hn) (by decide)).1, Nat.and_one_is_mod, Nat.testBit_eq_decide_div_mod_eq, Bool.eq_iff_iff, beq_iff_eq, decide_eq_true_eq]
  omega
theorem andI_zero {b c : Int} (hb : 0 ≤ b ∧ b < 256) (hc : 0 ≤ c ∧ c < 256) : Go.bits .and .u64 b c = 0 ↔ ∀ y : Int, 0 ≤ y → y < 8 → ¬ (hasI b y = true ∧ hasI c y = true) := by
  obtain ⟨n, rfl⟩ := Int.eq_ofNat_of_zero_le hb.1
  obtain ⟨m, rfl⟩ := Int.eq_ofNat_of_zero_le hc.1
  have hn : n < 256 := by omega
  have hm : m < 256 := by omega
  rw [(bits_nat .u64 8 (by decide) wraps8 n m hn hm).1]
  constructor
  · intro h y h0 h8 hh
    obtain ⟨q, rfl⟩ := Int.eq_ofNat_of_zero_le h0
    rw [hasI_bit n q hn (by omega), hasI_bit m q hm (by omega)] at hh
    have h1 : n &&& m = 0 := by omega
    have := Nat.testBit_and n m q
    rw [h1, hh.1, hh.2, Nat.zero_testBit] at this
    simp at this
  · intro h
    have : n &&& m = 0 := by
      refine Nat.eq_of_testBit_eq fun q => ?_
      rw [Nat.testBit_and, Nat.zero_testBit]
      by_cases hq : q < 8
      · have := h (q : Int) (by omega) (by omega)
        rw [hasI_bit n q hn hq, hasI_bit m q hm hq] at this
        cases h1 : n.testBit q <;> cases h2 : m.testBit q <;> simp_all
      · rw [Nat.testBit_lt_two_pow (i := q) (x := n) (Nat.lt_of_lt_of_le hn (by show 2 ^ 8 ≤ 2 ^ q; exact Nat.pow_le_pow_right (by decide) (by omega))), Bool.false_and]
    rw [this]
    rfl
/-! A cover. -/
def coverI (e : List S48) (l : List Int) : Bool := e.all fun s => decide (s.f0 ∈ l) || decide (s.f1 ∈ l)
theorem cover_loop (a : Int) (e : List S48) (l : List Int) (he : e.length ≤ 1048576) (hl : l.length ≤ 1048576) (d : Nat) : ∀ (m : Nat), e.length - m = d → m ≤ e.length → Ev (fun k => spec_l4Has.l0 k l (m : Int) a e) (coverI (e.drop m) l) := by
  induction d with
  | zero =>
    intro m h0 h1
    refine Ev.step (fun k => by rw [spec_l4Has.l0]) (Ev.neg (by omega) ?_)
    rw [List.drop_eq_nil_of_le (by omega)]
    exact Ev.now _
  | succ d ih =>
    intro m h0 h1
    have hm : m < e.length := by omega
    have ihm := ih (m + 1) (by omega) (by omega)
    rw [← wrap_up hm (by omega)] at ihm
    refine Ev.step (fun k => by rw [spec_l4Has.l0]) (Ev.pos (by omega) (Ev.pos (by omega) ?_))
    rw [rdT_at e m hm, List.drop_eq_getElem_cons hm]
    unfold coverI at ihm ⊢
    rw [List.all_cons]
    refine Ev.bind (l1Has_ev l _ hl) ?_
    by_cases c : e[m].f0 ∈ l
    · rw [decide_eq_true c, Bool.true_or, Bool.true_and]
      exact Ev.pos rfl ihm
    · rw [decide_eq_false c, Bool.false_or]
      refine Ev.neg (by decide) (Ev.bind (l1Has_ev l _ hl) ?_)
      by_cases c2 : e[m].f1 ∈ l
      · rw [decide_eq_true c2, Bool.true_and]
        exact Ev.pos rfl ihm
      · rw [decide_eq_false c2, Bool.false_and]
        exact Ev.neg (by decide) (Ev.now _)
theorem cover_free {a : Int} {e : List S48} {l : List Int} (hg : okG a e = true) (hx : ∀ x ∈ l, 0 ≤ x ∧ x < 8) : impl_Graph_isFree.f a e (lessI (allI a) (bagI 0 l)) = some (coverI e l) := by
  have h1 := okG_all hg
  have hb := bagI_at l 0 (by omega) hx
  have hc := lessI_at (n := a) ⟨h1.1, h1.2.1⟩ hb.1
  have hv : ∀ y, 0 ≤ y → y < 8 → hasI (lessI (allI a) (bagI 0 l)) y = (decide (y < a) && !decide (y ∈ l)) := fun y h1 h2 => by rw [hc.2 y h1 h2, hb.2 y h1 h2, hasI_nil h1 h2, Bool.false_or]
  rw [isFree_at a e _ (selI (fun z => !decide (z ∈ l)) a.toNat 0) (fun s hs => by have := h1.2.2 s hs; omega) (fun y h0 h8 => ?_)]
  · congr 1
    unfold freeI coverI
    rw [Bool.eq_iff_iff, Bool.not_eq_true', List.any_eq_false, List.all_eq_true]
    refine forall_congr' fun s => forall_congr' fun hs => ?_
    have h2 := h1.2.2 s hs
    simp only [Bool.and_eq_true, decide_eq_true_eq, selI_mem, Bool.not_eq_true', decide_eq_false_iff_not, Bool.or_eq_true]
    by_cases c1 : s.f0 ∈ l
    · simp [c1]
    · by_cases c2 : s.f1 ∈ l
      · simp [c2]
      · simp only [c1, c2, not_false_eq_true, and_true, or_self, iff_false, Classical.not_not]
        omega
  · rw [hv y h0 h8, Bool.eq_iff_iff, decide_eq_true_eq, selI_mem, Bool.and_eq_true, decide_eq_true_eq]
    refine and_congr_left fun _ => ?_
    omega
/-! A clique. -/
def cliN (e : List S48) (l : List Int) : Nat → Nat → Bool
  | 0, _ => true
  | d + 1, i => if (l.take i).all (fun y => hasP e (l[i]?.getD 0) y) = true then cliN e l d (i + 1) else false
section
variable (a : Int) (e : List S48) (l : List Int) (he : e.length ≤ 1048576) (hl : l.length ≤ 1048576)
include he hl
theorem sCli_row {R : Bool} (i : Nat) (hi : i < l.length) (d : Nat) : ∀ (j : Nat), i - j = d → j ≤ i → Ev (fun k => spec_l4Has.l1 k l (wrap64 ((i : Int) + 1)) a e) R →
    Ev (fun k => spec_l4Has.l2 k l (i : Int) (j : Int) a e) (if ((l.take i).drop j).all (fun y => hasP e (l[i]?.getD 0) y) = true then R else false) := by
  induction d with
  | zero =>
    intro j h0 h1 h
    refine Ev.step (fun k => by rw [spec_l4Has.l2]) (Ev.neg (by omega) ?_)
    rw [List.drop_eq_nil_of_le (by rw [List.length_take]; omega), List.all_nil, if_pos rfl]
    exact h
  | succ d ih =>
    intro j h0 h1 h
    have hj : j < l.length := by omega
    refine Ev.step (fun k => by rw [spec_l4Has.l2]) (Ev.pos (by omega) (Ev.pos (by omega) (Ev.pos (by omega) (Ev.pos (by omega) (Ev.pos (by omega) ?_)))))
    rw [rd_at l j hj, rd_at l i hi]
    refine Ev.bind (near_ev a e l[i] l[j] he) ?_
    have hd : (l.take i).drop j = l[j] :: (l.take i).drop (j + 1) := by
      rw [List.drop_eq_getElem_cons (by rw [List.length_take]; omega), List.getElem_take]
    rw [hd, List.all_cons, List.getElem?_eq_getElem hi, Option.getD_some]
    have := ih (j + 1) (by omega) (by omega) h
    rw [List.getElem?_eq_getElem hi, Option.getD_some] at this
    cases c : hasP e l[i] l[j] with
    | true => rw [Bool.true_and, wrap_up hj (by omega)]; exact Ev.pos rfl this
    | false => rw [Bool.false_and, if_neg (by decide : ¬ false = true)]; exact Ev.neg (by decide) (Ev.now _)
theorem sCli_loop (d : Nat) : ∀ (i : Nat), l.length - i = d → i ≤ l.length → Ev (fun k => spec_l4Has.l1 k l (i : Int) a e) (cliN e l d i) := by
  induction d with
  | zero =>
    intro i h0 h1
    refine Ev.step (fun k => by rw [spec_l4Has.l1]) (Ev.neg (by omega) ?_)
    exact Ev.now _
  | succ d ih =>
    intro i h0 h1
    have hi : i < l.length := by omega
    refine Ev.step (fun k => by rw [spec_l4Has.l1]) (Ev.pos (by omega) ?_)
    have h := ih (i + 1) (by omega) (by omega)
    rw [← wrap_up hi (by omega)] at h
    have := sCli_row a e l he hl i hi i 0 (by omega) (by omega) h
    simpa only [List.drop_zero, cliN, Int.natCast_zero] using this
variable (hu : ∀ s ∈ e, s.f0 < s.f1)
include hu
theorem iCli_row {R : Bool} (i : Nat) (hi : i < l.length) (d : Nat) : ∀ (j : Nat), i - j = d → j ≤ i → Ev (fun k => impl_Graph_hasKind.l0 k l l (l.length : Int) (wrap64 ((i : Int) + 1)) a e) R →
    Ev (fun k => impl_Graph_hasKind.l1 k l l[i] l (l.length : Int) (i : Int) (l.take i) ((l.take i).length : Int) (j : Int) a e) (if ((l.take i).drop j).all (fun y => hasP e (l[i]?.getD 0) y) = true then R else false) := by
  have ht : (l.take i).length = i := by rw [List.length_take]; omega
  induction d with
  | zero =>
    intro j h0 h1 h
    refine Ev.step (fun k => by rw [impl_Graph_hasKind.l1]) (Ev.neg (by omega) ?_)
    rw [List.drop_eq_nil_of_le (by rw [List.length_take]; omega), List.all_nil, if_pos rfl]
    exact h
  | succ d ih =>
    intro j h0 h1 h
    have hj : j < l.length := by omega
    have hj2 : j < (l.take i).length := by omega
    refine Ev.step (fun k => by rw [impl_Graph_hasKind.l1]) (Ev.pos (by omega) (Ev.pos (by omega) (Ev.pos (by omega) ?_)))
    rw [rd_at (l.take i) j hj2, List.getElem_take]
    refine Ev.bind (has_ev a e l[i] l[j] he hu) ?_
    have hd : (l.take i).drop j = l[j] :: (l.take i).drop (j + 1) := by
      rw [List.drop_eq_getElem_cons hj2, List.getElem_take]
    rw [hd, List.all_cons, List.getElem?_eq_getElem hi, Option.getD_some]
    have := ih (j + 1) (by omega) (by omega) h
    rw [List.getElem?_eq_getElem hi, Option.getD_some] at this
    cases c : hasP e l[i] l[j] with
    | true => rw [Bool.true_and, wrap_up hj (by omega)]; exact Ev.pos rfl this
    | false => rw [Bool.false_and, if_neg (by decide : ¬ false = true)]; exact Ev.neg (by decide) (Ev.now _)
theorem iCli_loop (d : Nat) : ∀ (i : Nat), l.length - i = d → i ≤ l.length → Ev (fun k => impl_Graph_hasKind.l0 k l l (l.length : Int) (i : Int) a e) (cliN e l d i) := by
  induction d with
  | zero =>
    intro i h0 h1
    refine Ev.step (fun k => by rw [impl_Graph_hasKind.l0]) (Ev.neg (by omega) ?_)
    exact Ev.now _
  | succ d ih =>
    intro i h0 h1
    have hi : i < l.length := by omega
    refine Ev.step (fun k => by rw [impl_Graph_hasKind.l0]) (Ev.pos (by omega) (Ev.pos (by omega) (Ev.pos (by omega) (Ev.pos (by omega) ?_))))
    have h := ih (i + 1) (by omega) (by omega)
    rw [← wrap_up hi (by omega)] at h
    have := iCli_row a e l he hl hu i hi i 0 (by omega) (by omega) h
    rw [rd_at l i hi, Int.toNat_natCast]
    refine Ev.bindo rfl ?_
    simpa only [List.drop_zero, cliN, Int.natCast_zero] using this
end
/-- A rising list of small numbers is what its bag lists. -/
theorem ris_list (l : List Int) : ∀ (d : Nat) (p : Option Int) (y : Int), risI 0 7 p l = true → y + (d : Int) = 8 → 0 ≤ y → (∀ x ∈ l, y ≤ x) → selI (fun z => decide (z ∈ l)) d y = l := by
  induction l with
  | nil =>
    intro d p y h hd h0 hy
    exact selI_none _ d y (fun z _ _ => by simp)
  | cons x t ih =>
    intro d
    induction d with
    | zero =>
      intro p y h hd h0 hy
      have h1 := risI_all 0 7 (x :: t) p h x (List.mem_cons_self ..)
      have h2 := hy x (List.mem_cons_self ..)
      omega
    | succ d ihd =>
      intro p y h hd h0 hy
      have hx := hy x (List.mem_cons_self ..)
      have h' := h
      simp only [risI, Bool.and_eq_true, decide_eq_true_eq] at h'
      have ht : ∀ z ∈ t, x < z := by
        have h3 := h'.2.2
        have : ∀ (t : List Int) (q : Int), risI 0 7 (some q) t = true → ∀ z ∈ t, q < z := by
          intro t
          induction t with
          | nil => intro q _ z hz; simp at hz
          | cons w t ih =>
            intro q h z hz
            simp only [risI, Bool.and_eq_true, decide_eq_true_eq] at h
            rcases List.mem_cons.1 hz with rfl | hz
            · exact h.2.1
            · have := ih w h.2.2 z hz
              omega
        exact this t x h3
      by_cases c : y = x
      · subst c
        simp only [selI]
        rw [if_pos (by simp), List.singleton_append]
        congr 1
        have hcon : selI (fun z => decide (z ∈ y :: t)) d (y + 1) = selI (fun z => decide (z ∈ t)) d (y + 1) := selI_congr _ _ _ _ fun z h1 h2 => by
          rw [decide_eq_decide, List.mem_cons]
          exact ⟨fun h => h.resolve_left (by omega), .inr⟩
        rw [hcon]
        exact ih d (some y) (y + 1) h'.2.2 (by omega) (by omega) (fun z hz => by have := ht z hz; omega)
      · have hnot : ¬ y ∈ x :: t := by
          rw [List.mem_cons]
          rintro (hh | hh)
          · exact c hh
          · have := ht y hh
            omega
        simp only [selI]
        rw [if_neg (by simpa using hnot), List.nil_append]
        exact ihd p (y + 1) h (by omega) (by omega) (fun z hz => by
          rcases List.mem_cons.1 hz with rfl | hz
          · omega
          · have := ht z hz
            omega)
theorem bag_list_self {l : List Int} (h : risI 0 7 none l = true) : selI (hasI (bagI 0 l)) 8 0 = l := by
  have hx : ∀ x ∈ l, 0 ≤ x ∧ x < 8 := fun x hx => by have := risI_all 0 7 l none h x hx; omega
  have hb := (bagI_at l 0 (by omega) hx).2
  rw [selI_congr (hasI (bagI 0 l)) (fun z => decide (z ∈ l)) 8 0 (fun z h1 h2 => by rw [hb z h1 (by omega), hasI_nil h1 (by omega), Bool.false_or])]
  exact ris_list l 8 none 0 h (by decide) (by decide) (fun x hh => (hx x hh).1)
theorem risI_wide {n : Int} (hn : n ≤ 7) (l : List Int) : ∀ p, risI 0 n p l = true → risI 0 7 p l = true := by
  induction l with
  | nil => intro p _; cases p <;> rfl
  | cons x t ih =>
    intro p h
    simp only [risI, Bool.and_eq_true, decide_eq_true_eq] at h ⊢
    exact ⟨by omega, h.2.1, ih _ h.2.2⟩
/-! A dominating set. -/
theorem hasP_comm (e : List S48) (x y : Int) : hasP e x y = hasP e y x := by
  unfold hasP
  refine any_congr e _ _ fun s hs => ?_
  rw [Bool.or_comm]
def domN (e : List S48) (l : List Int) : Nat → Int → Bool
  | 0, _ => true
  | d + 1, x => if (decide (x ∈ l) || l.any fun y => hasP e y x) = true then domN e l d (x + 1) else false
section
variable (a : Int) (e : List S48) (l : List Int) (he : e.length ≤ 1048576) (hl : l.length ≤ 1048576) (h8 : a ≤ 8)
include he hl
theorem sDom_row {R : Bool} (x : Int) (d : Nat) : ∀ (m : Nat) (b : Bool), l.length - m = d → m ≤ l.length → Ev (fun k => spec_l4Has.l3 k l (wrap64 (x + 1)) a e) R →
    Ev (fun k => spec_l4Has.l4 k l x b (m : Int) a e) (if (b || (l.drop m).any fun y => hasP e y x) = true then R else false) := by
  induction d with
  | zero =>
    intro m b h0 h1 h
    refine Ev.step (fun k => by rw [spec_l4Has.l4]) (Ev.neg (by omega) ?_)
    rw [List.drop_eq_nil_of_le (by omega), List.any_nil, Bool.or_false]
    cases b with
    | true => rw [if_pos rfl]; exact Ev.pos rfl h
    | false => rw [if_neg (by decide : ¬ false = true)]; exact Ev.neg (by decide) (Ev.now _)
  | succ d ih =>
    intro m b h0 h1 h
    have hm : m < l.length := by omega
    refine Ev.step (fun k => by rw [spec_l4Has.l4]) (Ev.pos (by omega) ?_)
    rw [wrap_up hm (by omega), List.drop_eq_getElem_cons hm, List.any_cons]
    cases b with
    | true =>
      have := ih (m + 1) true (by omega) (by omega) h
      rw [Bool.true_or] at this ⊢
      exact Ev.pos rfl this
    | false =>
      refine Ev.neg (by decide) (Ev.pos (by omega) ?_)
      rw [rd_at l m hm, Bool.false_or]
      exact Ev.bind (near_ev a e l[m] x he) (ih (m + 1) _ (by omega) (by omega) h)
include h8
theorem sDom_loop (d : Nat) : ∀ (x : Int), (a - x).toNat = d → 0 ≤ x → Ev (fun k => spec_l4Has.l3 k l x a e) (domN e l d x) := by
  induction d with
  | zero =>
    intro x h0 h1
    refine Ev.step (fun k => by rw [spec_l4Has.l3]) (Ev.neg (by omega) ?_)
    exact Ev.now _
  | succ d ih =>
    intro x h0 h1
    have hw : wrap64 (x + 1) = x + 1 := wrap_nat (by omega) (by omega)
    refine Ev.step (fun k => by rw [spec_l4Has.l3]) (Ev.pos (by omega) (Ev.bind (l1Has_ev l x hl) ?_))
    have h := ih (x + 1) (by omega) (by omega)
    rw [← hw] at h
    have := sDom_row a e l he hl x l.length 0 (decide (x ∈ l)) (by omega) (Nat.zero_le _) h
    rw [hw] at this
    simpa only [List.drop_zero, domN, Int.natCast_zero] using this
end
section
variable (a : Int) (e : List S48) (l : List Int) (he : e.length ≤ 1048576) (h8 : a ≤ 8) (hg : okG a e = true) (hx : ∀ x ∈ l, 0 ≤ x ∧ x < 8)
include he h8 hg hx
theorem iDom_loop (d : Nat) : ∀ (x : Int), (a - x).toNat = d → 0 ≤ x → Ev (fun k => impl_Graph_hasKind.l2 k (bagI 0 l) a x a e) (domN e l d x) := by
  have h2 := okG_all hg
  have hu : ∀ s ∈ e, s.f0 < s.f1 := fun s hs => (h2.2.2 s hs).2.1
  have hb := bagI_at l 0 (by omega) hx
  induction d with
  | zero =>
    intro x h0 h1
    refine Ev.step (fun k => by rw [impl_Graph_hasKind.l2]) (Ev.neg (by omega) ?_)
    exact Ev.now _
  | succ d ih =>
    intro x h0 h1
    have hw : wrap64 (x + 1) = x + 1 := wrap_nat (by omega) (by omega)
    have h := ih (x + 1) (by omega) (by omega)
    refine Ev.step (fun k => by rw [impl_Graph_hasKind.l2]) (Ev.pos (by omega) (Ev.bindo (bag_has_at h1) ?_))
    rw [hb.2 x h1 (by omega), hasI_nil h1 (by omega), Bool.false_or, domN, hw]
    by_cases c : x ∈ l
    · rw [decide_eq_true c, Bool.true_or, if_pos rfl]
      exact Ev.pos rfl h
    · rw [decide_eq_false c, Bool.false_or]
      have hnx : ∀ y ∈ nbs e x a.toNat 0, 0 ≤ y ∧ y < 8 := by
        intro y hy
        have : ∀ (d : Nat) (z : Int), y ∈ nbs e x d z → z ≤ y ∧ y < z + (d : Int) := by
          intro d
          induction d with
          | zero => intro z hz; simp [nbs] at hz
          | succ d ih =>
            intro z hz
            simp only [nbs, List.mem_append] at hz
            rcases hz with hz | hz
            · split at hz
              · simp only [List.mem_singleton] at hz; omega
              · simp at hz
            · have := ih (z + 1) hz; omega
        have := this a.toNat 0 hy
        omega
      have hmem : ∀ y, y ∈ nbs e x a.toNat 0 ↔ (0 ≤ y ∧ y < a) ∧ hasP e x y = true := by
        intro y
        have : ∀ (d : Nat) (z : Int), y ∈ nbs e x d z ↔ (z ≤ y ∧ y < z + (d : Int)) ∧ hasP e x y = true := by
          intro d
          induction d with
          | zero => intro z; simp only [nbs, List.not_mem_nil, false_iff]; omega
          | succ d ih =>
            intro z
            simp only [nbs, List.mem_append, ih]
            by_cases c : hasP e x z = true
            · rw [if_pos c, List.mem_singleton]
              constructor
              · rintro (rfl | hh)
                · exact ⟨by omega, c⟩
                · exact ⟨by omega, hh.2⟩
              · rintro ⟨hh, hf⟩
                by_cases hz : y = z
                · exact .inl hz
                · exact .inr ⟨by omega, hf⟩
            · rw [if_neg c]
              constructor
              · rintro (hh | hh)
                · simp at hh
                · exact ⟨by omega, hh.2⟩
              · rintro ⟨hh, hf⟩
                by_cases hz : y = z
                · subst hz; exact absurd hf c
                · exact .inr ⟨by omega, hf⟩
        rw [this a.toNat 0]
        refine and_congr_left fun _ => ?_
        omega
      have hlen := nbs_len e x a.toNat 0
      have hb2 := bagI_at (nbs e x a.toNat 0) 0 (by omega) hnx
      refine Ev.neg (by decide) (Ev.bind (neighbors_ev a e x he h8 hu) (Ev.bind (bagOf_ev _ (by omega) hnx) ?_))
      have hz := andI_zero hb2.1 hb.1
      have hiff : Go.bits .and .u64 (bagI 0 (nbs e x a.toNat 0)) (bagI 0 l) = 0 ↔ ¬ (l.any fun y => hasP e y x) = true := by
        rw [hz, List.any_eq_true]
        constructor
        · rintro hh ⟨y, hy, hp⟩
          have hy8 := hx y hy
          refine hh y hy8.1 hy8.2 ⟨?_, ?_⟩
          · rw [hb2.2 y hy8.1 hy8.2, hasI_nil hy8.1 hy8.2, Bool.false_or, decide_eq_true_eq, hmem]
            refine ⟨?_, by rw [hasP_comm e]; exact hp⟩
            obtain ⟨s, hs, hc⟩ := (hasP_iff e y x).1 hp
            have := h2.2.2 s hs
            omega
          · rw [hb.2 y hy8.1 hy8.2, hasI_nil hy8.1 hy8.2, Bool.false_or, decide_eq_true_eq]
            exact hy
        · intro hh y h0 h8' hc
          rw [hb2.2 y h0 h8', hb.2 y h0 h8', hasI_nil h0 h8', Bool.false_or, Bool.false_or, decide_eq_true_eq, decide_eq_true_eq, hmem] at hc
          exact hh ⟨y, hc.2, by rw [hasP_comm e]; exact hc.1.2⟩
      by_cases c2 : (l.any fun y => hasP e y x) = true
      · rw [if_pos c2]
        exact Ev.neg (fun hh => hiff.1 hh c2) h
      · rw [if_neg c2]
        exact Ev.pos (hiff.2 c2) (Ev.now _)
end
end Go.Proofs.Ytfaeopmofgnbdaa.P
namespace Go.Proofs.Ytfaeopmofgnbdaa.P
open Go.RowKit Go.Proofs.YtfaeopmofgnbdaaW.PrintWords Go.Proofs.YtfaeopmofgnbdaaW.PrintLast Go.Proofs.YtfaeopmofgnbdaaW.PrintMore
set_option linter.unusedVariables false

def kindI (a : Int) (e : List S48) (c : Int) (l : List Int) : Bool := if c = 1 then coverI e l else if c = 2 then cliN e l l.length 0 else domN e l a.toNat 0
theorem l4Has_ev (a : Int) (e : List S48) (c : Int) (l : List Int) (he : e.length ≤ 1048576) (hl : l.length ≤ 1048576) (h8 : a ≤ 8) : Ev (fun k => spec_l4Has.f k a e c l) (kindI a e c l) := by
  unfold spec_l4Has.f kindI
  by_cases c1 : c = 1
  · rw [if_pos c1]
    exact Ev.pos c1 (cover_loop a e l he hl e.length 0 (by omega) (Nat.zero_le _))
  · rw [if_neg c1]
    by_cases c2 : c = 2
    · rw [if_pos c2]
      exact Ev.neg c1 (Ev.pos c2 (sCli_loop a e l he hl l.length 0 (by omega) (Nat.zero_le _)))
    · rw [if_neg c2]
      exact Ev.neg c1 (Ev.neg c2 (sDom_loop a e l he hl h8 a.toNat 0 (by omega) (by omega)))
theorem hasKind_ev (a : Int) (e : List S48) (c : Int) (l : List Int) (he : e.length ≤ 1048576) (hl : l.length ≤ 1048576) (hg : okG a e = true) (hr : risI 0 (wrap64 (a - 1)) none l = true) : Ev (fun k => impl_Graph_hasKind.f k a e c (bagI 0 l)) (kindI a e c l) := by
  have h1 := okG_all hg
  have hu : ∀ s ∈ e, s.f0 < s.f1 := fun s hs => (h1.2.2 s hs).2.1
  have hx := set_small hg hr
  have hw : wrap64 (a - 1) = a - 1 := wrap_nat (by omega) (by omega)
  unfold impl_Graph_hasKind.f kindI
  by_cases c1 : c = 1
  · rw [if_pos c1]
    refine Ev.pos c1 (Ev.bindo (a := allI a) ?_ (Ev.bindo (cover_free hg hx) (Ev.now _)))
    unfold impl_Graph_all.f
    rw [if_pos h1.1]
    rfl
  · rw [if_neg c1]
    by_cases c2 : c = 2
    · rw [if_pos c2]
      refine Ev.neg c1 (Ev.pos c2 (Ev.bind (bag_list_ev _) ?_))
      rw [bag_list_self (risI_wide (by omega) l none hr)]
      exact iCli_loop a e l he hl hu l.length 0 (by omega) (Nat.zero_le _)
    · rw [if_neg c2]
      exact Ev.neg c1 (Ev.neg c2 (iDom_loop a e l he h1.2.1 hg hx a.toNat 0 (by omega) (by omega)))
theorem kind_at (c : Int) : impl_isKind.f c = some (decide (1 ≤ c) && decide (c ≤ 3)) := by
  unfold impl_isKind.f
  rw [between_at, Option.bind_some]
theorem l4Kind_at (c : Int) : spec_l4Kind.f c = some (decide (1 ≤ c) && decide (c ≤ 3)) := by
  unfold spec_l4Kind.f
  rw [in_at, Option.bind_some]
end Go.Proofs.Ytfaeopmofgnbdaa.P
namespace Go.Proofs.Ytfaeopmofgnbdaa.P
open Go.RowKit Go.Proofs.YtfaeopmofgnbdaaW.PrintWords Go.Proofs.YtfaeopmofgnbdaaW.PrintLast Go.Proofs.YtfaeopmofgnbdaaW.PrintMore
set_option linter.unusedVariables false
set_option linter.unusedSimpArgs false

/-- For finitely many, one number of rounds serves all. -/
theorem uniform (P : Nat → Nat → Prop) : ∀ n : Nat, (∀ b, b < n → ∃ K, ∀ k, K ≤ k → P b k) → ∃ K, ∀ k, K ≤ k → ∀ b, b < n → P b k := by
  intro n
  induction n with
  | zero => intro _; exact ⟨0, fun k _ b hb => by omega⟩
  | succ n ih =>
    intro h
    obtain ⟨K1, h1⟩ := ih (fun b hb => h b (by omega))
    obtain ⟨K2, h2⟩ := h n (by omega)
    refine ⟨max K1 K2, fun k hk b hb => ?_⟩
    by_cases c : b = n
    · subst c; exact h2 k (by omega)
    · exact h1 k (by omega) b (by omega)
section
variable (n : Nat) (hn : n ≤ 8) (e : List S48) (c : Int) (he : e.length ≤ 1048576)
/-- The sets of a kind, by their codes. -/
def kindB (n : Nat) (e : List S48) (c : Int) (b : Int) : Bool := kindI (n : Int) e c (bagL b)
/-- The sets of a kind with so many nodes. -/
def kindZ (n : Nat) (e : List S48) (c : Int) (z : Nat) (b : Int) : Bool := decide ((bagL b).length = z) && kindB n e c b
def levels (n : Nat) (e : List S48) (c : Int) : Nat → Nat → List (List Int)
  | 0, _ => []
  | d + 1, z => sortLL (codesL (kindZ n e c z) (2 ^ n)) ++ levels n e c d (z + 1)
include hn in
theorem levels_mem (d : Nat) : ∀ z s, s ∈ levels n e c d z ↔ SetN n s ∧ kindI (n : Int) e c s = true ∧ z ≤ s.length ∧ s.length < z + d := by
  induction d with
  | zero => intro z s; simp only [levels, List.not_mem_nil, false_iff]; omega
  | succ d ih =>
    intro z s
    simp only [levels]
    rw [List.mem_append, sortLL_mem, codes_mem hn, ih]
    constructor
    · rintro (⟨h1, h2⟩ | ⟨h1, h2, h3, h4⟩)
      · unfold kindZ kindB at h2
        rw [(h1.code hn).2, Bool.and_eq_true, decide_eq_true_eq] at h2
        exact ⟨h1, h2.2, by omega, by omega⟩
      · exact ⟨h1, h2, by omega, by omega⟩
    · rintro ⟨h1, h2, h3, h4⟩
      by_cases q : s.length = z
      · refine .inl ⟨h1, ?_⟩
        unfold kindZ kindB
        rw [(h1.code hn).2, h2, decide_eq_true q]
        rfl
      · exact .inr ⟨h1, h2, by omega, by omega⟩
include hn in
theorem levels_pw (d : Nat) : ∀ z, (levels n e c d z).Pairwise (fun x y => befS x y = true) := by
  have hpow : 2 ^ n ≤ 256 := Nat.pow_le_pow_right (n := 2) (by decide) (show n ≤ 8 from hn)
  induction d with
  | zero => intro z; exact List.Pairwise.nil
  | succ d ih =>
    intro z
    simp only [levels]
    rw [List.pairwise_append]
    have hz : ∀ s, s ∈ sortLL (codesL (kindZ n e c z) (2 ^ n)) → s.length = z := fun s hs => by
      rw [sortLL_mem, codes_mem hn] at hs
      have h2 := hs.2
      unfold kindZ at h2
      rw [(hs.1.code hn).2, Bool.and_eq_true, decide_eq_true_eq] at h2
      exact h2.1
    refine ⟨?_, ih (z + 1), fun a ha b hb => ?_⟩
    · have h1 := sortLL_lex (codesL (kindZ n e c z) (2 ^ n)) (codes_nodup hpow _)
      refine (List.Pairwise.and_mem.1 h1).imp ?_
      rintro x y ⟨hx, hy, h⟩
      rw [befS_eq, if_pos ((hz x hx).trans (hz y hy).symm)]
      exact h
    · have h1 := hz a ha
      have h2 := ((levels_mem n hn e c d (z + 1) b).1 hb).2.2.1
      rw [befS_eq, if_neg (by omega), decide_eq_true_eq]
      omega
include hn in
theorem levels_len (d : Nat) : ∀ z, (levels n e c d z).length ≤ 256 * d := by
  have hpow : 2 ^ n ≤ 256 := Nat.pow_le_pow_right (n := 2) (by decide) (show n ≤ 8 from hn)
  induction d with
  | zero => intro z; simp [levels]
  | succ d ih =>
    intro z
    simp only [levels]
    rw [List.length_append, sortLL_len]
    have := codesL_len (kindZ n e c z) (2 ^ n)
    have := ih (z + 1)
    omega
include hn in
theorem levels_eq : levels n e c (n + 1) 0 = sortSS (sortLL (codesL (kindB n e c) (2 ^ n))) := by
  have hpow : 2 ^ n ≤ 256 := Nat.pow_le_pow_right (n := 2) (by decide) (show n ≤ 8 from hn)
  have hnd : (sortLL (codesL (kindB n e c) (2 ^ n))).Nodup := (sortLL_lex _ (codes_nodup hpow _)).nodup
  refine strict_unique befS_irrefl (fun _ _ h => befS_asymm h) _ _ (levels_pw n hn e c (n + 1) 0) ?_ fun s => ?_
  · have h1 : (sortSS (sortLL (codesL (kindB n e c) (2 ^ n)))).Pairwise (fun x y => (!befS y x) = true) := List.pairwise_mergeSort
      (fun x y z h1 h2 => by
        rw [Bool.not_eq_true'] at *
        exact befS_ntrans _ _ _ h2 h1)
      (fun x y => by
        cases c : befS y x with
        | false => rfl
        | true => rw [befS_asymm c]; rfl) _
    have h2 : (sortSS (sortLL (codesL (kindB n e c) (2 ^ n)))).Nodup := (List.mergeSort_perm _ _).nodup_iff.2 hnd
    refine List.Pairwise.imp ?_ (List.pairwise_and_iff.2 ⟨h1, h2⟩)
    rintro x y ⟨h3, h4⟩
    rw [Bool.not_eq_true'] at h3
    cases c : befS x y with
    | true => rfl
    | false => exact absurd (befS_tri x y c h3) h4
  · rw [levels_mem n hn, show s ∈ sortSS (sortLL (codesL (kindB n e c) (2 ^ n))) ↔ s ∈ sortLL (codesL (kindB n e c) (2 ^ n)) from List.mem_mergeSort, sortLL_mem, codes_mem hn]
    constructor
    · rintro ⟨h1, h2, _⟩
      exact ⟨h1, by unfold kindB; rw [(h1.code hn).2]; exact h2⟩
    · rintro ⟨h1, h2⟩
      unfold kindB at h2
      rw [(h1.code hn).2] at h2
      exact ⟨h1, h2, Nat.zero_le _, by have := h1.len; omega⟩
include hn he in
theorem l4_codes {R : List (List Int)} (out : List (List Int)) (z : Nat) (hz : z ≤ 8) (ho : out.length ≤ 256 * z) (hR : Ev (fun k => spec_l4Sets.l0 k c (out ++ sortLL (codesL (kindZ n e c z) (2 ^ n))) (wrap64 ((z : Int) + 1)) (n : Int) e) R) (d : Nat) : ∀ m : Nat, 2 ^ n - m = d → m ≤ 2 ^ n →
    Ev (fun k => spec_l4Sets.l1 k c out (z : Int) (codesL (kindZ n e c z) m) (m : Int) (n : Int) e) R := by
  have hpow : 2 ^ n ≤ 256 := Nat.pow_le_pow_right (n := 2) (by decide) (show n ≤ 8 from hn)
  have hsh : shl .i64 1 (n : Int) = ((2 ^ n : Nat) : Int) := by
    have : ∀ i : Fin 9, shl .i64 1 i = ((2 ^ i.val : Nat) : Int) := by decide +kernel
    exact this ⟨n, by omega⟩
  induction d with
  | zero =>
    intro m h0 h1
    have hm : m = 2 ^ n := by omega
    subst hm
    refine Ev.step (fun k => by rw [spec_l4Sets.l1]) ?_
    refine Ev.pos (by omega) ?_
    rw [hsh]
    refine Ev.neg (by omega) ?_
    refine Ev.bind (l2Sorted_nodup _ (by have := codesL_len (kindZ n e c z) (2 ^ n); omega) (fun s hs => by
      have := (((codes_mem hn _ s).1 hs).1).len
      omega) (codes_nodup hpow _)) ?_
    refine Ev.pos (by rw [sortLL_len]; have := codesL_len (kindZ n e c z) (2 ^ n); omega) ?_
    exact hR
  | succ d ih =>
    intro m h0 h1
    have hb : 0 ≤ (m : Int) ∧ (m : Int) < ((2 ^ n : Nat) : Int) := by omega
    have hset := bagL_set hn hb
    have hlen := hset.len
    have hkl := l4Has_ev (n : Int) e c (bagL (m : Int)) he (by omega) (by omega)
    have h5 := ih (m + 1) (by omega) (by omega)
    rw [codesL_succ, ← wrap_up (show m < 2 ^ n by omega) (by omega)] at h5
    have hcl := codesL_len (kindZ n e c z) m
    refine Ev.step (fun k => by rw [spec_l4Sets.l1]) ?_
    refine Ev.pos (by omega) ?_
    rw [hsh]
    refine Ev.pos hb.2 ?_
    refine Ev.bind (bits_ev n (m : Int) hn hb) ?_
    by_cases cz : (bagL (m : Int)).length = z
    · refine Ev.pos (by omega) ?_
      refine Ev.bind hkl ?_
      cases ck : kindI (n : Int) e c (bagL (m : Int)) with
      | true =>
        rw [if_pos (by unfold kindZ kindB; rw [ck, decide_eq_true cz]; rfl)] at h5
        refine Ev.pos rfl ?_
        refine Ev.pos (by omega) ?_
        exact h5
      | false =>
        rw [if_neg (by unfold kindZ kindB; rw [ck, Bool.and_false]; decide), List.append_nil] at h5
        refine Ev.neg (by decide) ?_
        exact h5
    · rw [if_neg (by unfold kindZ; rw [decide_eq_false cz, Bool.false_and]; decide), List.append_nil] at h5
      refine Ev.neg (by omega) ?_
      exact h5
include hn he in
theorem l4_levels (d : Nat) : ∀ (z : Nat) (out : List (List Int)), n + 1 - z = d → z ≤ n + 1 → out.length ≤ 256 * z → Ev (fun k => spec_l4Sets.l0 k c out (z : Int) (n : Int) e) (out ++ levels n e c d z) := by
  have hpow : 2 ^ n ≤ 256 := Nat.pow_le_pow_right (n := 2) (by decide) (show n ≤ 8 from hn)
  induction d with
  | zero =>
    intro z out h0 h1 h2
    simp only [levels, List.append_nil]
    refine Ev.step (fun k => by rw [spec_l4Sets.l0]) ?_
    exact Ev.neg (by omega) (Ev.now _)
  | succ d ih =>
    intro z out h0 h1 h2
    have hlen := codesL_len (kindZ n e c z) (2 ^ n)
    have h3 := ih (z + 1) (out ++ sortLL (codesL (kindZ n e c z) (2 ^ n))) (by omega) (by omega) (by rw [List.length_append, sortLL_len]; omega)
    have hw : wrap64 ((z : Int) + 1) = ((z + 1 : Nat) : Int) := by unfold wrap64; omega
    rw [← hw] at h3
    have h4 := l4_codes n hn e c he out z (by omega) h2 h3 (2 ^ n) 0 (by omega) (Nat.zero_le _)
    rw [show codesL (kindZ n e c z) 0 = [] from rfl] at h4
    simp only [levels]
    rw [← List.append_assoc]
    refine Ev.step (fun k => by rw [spec_l4Sets.l0]) ?_
    refine Ev.pos (by omega) ?_
    simpa only [Int.natCast_zero] using h4
include hn he in
theorem l4Sets_ev : Ev (fun k => spec_l4Sets.f k (n : Int) e c) (sortSS (sortLL (codesL (kindB n e c) (2 ^ n)))) := by
  have h := l4_levels n hn e c he (n + 1) 0 [] (by omega) (by omega) (by simp)
  rw [List.nil_append, levels_eq n hn] at h
  unfold spec_l4Sets.f
  simpa only [Int.natCast_zero] using h
include hn he in
theorem ofKind_ev (hg : okG (n : Int) e = true) : Ev (fun k => impl_Graph_ofKind.f k (n : Int) e c) (sortSS (sortLL (codesL (kindB n e c) (2 ^ n)))) := by
  have hpow : 2 ^ n ≤ 256 := Nat.pow_le_pow_right (n := 2) (by decide) (show n ≤ 8 from hn)
  have hw : wrap64 ((n : Int) - 1) = (n : Int) - 1 := wrap_nat (by omega) (by omega)
  obtain ⟨K, hK⟩ := uniform (fun b k => impl_Graph_hasKind.f k (n : Int) e c (b : Int) = some (kindB n e c (b : Int))) (2 ^ n) (fun b hb => by
    have hb' : 0 ≤ (b : Int) ∧ (b : Int) < ((2 ^ n : Nat) : Int) := by omega
    have hs := bagL_set hn hb'
    have h := hasKind_ev (n : Int) e c (bagL (b : Int)) he (by have := hs.len; omega) hg (by rw [hw]; exact hs.ris)
    rw [bag_left_at ⟨hb'.1, by omega⟩] at h
    exact h)
  refine ⟨K, fun k hk => ?_⟩
  have h1 := hK k hk
  show impl_Graph_ofKind.f k (n : Int) e c = _
  unfold impl_Graph_ofKind.f
  rw [if_pos (show kindOk k (n : Int) e c from ⟨by omega, fun b hb => by rw [Int.toNat_natCast] at hb; rw [h1 b.val hb]; rfl⟩), Int.toNat_natCast]
  have e1 : selI (kindP k (n : Int) e c) (2 ^ n) 0 = selI (kindB n e c) (2 ^ n) 0 := selI_congr _ _ _ _ fun z h0 h2 => by
    have := h1 z.toNat (by omega)
    rw [show ((z.toNat : Nat) : Int) = z by omega] at this
    unfold kindP
    rw [this]
    rfl
  unfold codesL
  rw [e1]
include hn in
/-- There is a set of each kind. -/
theorem kind_some (hg : okG (n : Int) e = true) : 0 < (sortSS (sortLL (codesL (kindB n e c) (2 ^ n)))).length := by
  have h1 := okG_all hg
  have key : ∃ s, SetN n s ∧ kindI (n : Int) e c s = true := by
    unfold kindI
    have hall : SetN n (selI (fun _ => true) n 0) := ⟨selI_pw _ _ _, fun x hx => by have := ((selI_mem _ _ _ _).1 hx).1; omega⟩
    have hin : ∀ x, 0 ≤ x → x < (n : Int) → x ∈ selI (fun _ => true) n 0 := fun x h0 h2 => (selI_mem _ _ _ _).2 ⟨by omega, rfl⟩
    by_cases c1 : c = 1
    · refine ⟨_, hall, ?_⟩
      rw [if_pos c1]
      unfold coverI
      rw [List.all_eq_true]
      intro s hs
      have := h1.2.2 s hs
      rw [decide_eq_true (hin s.f0 (by omega) (by omega)), Bool.true_or]
    · by_cases c2 : c = 2
      · refine ⟨[], ⟨List.Pairwise.nil, fun x hx => by simp at hx⟩, ?_⟩
        rw [if_neg c1, if_pos c2]
        rfl
      · refine ⟨_, hall, ?_⟩
        rw [if_neg c1, if_neg c2, Int.toNat_natCast]
        have : ∀ (d : Nat) (x : Int), 0 ≤ x → x + (d : Int) ≤ (n : Int) → domN e (selI (fun _ => true) n 0) d x = true := by
          intro d
          induction d with
          | zero => intro x _ _; rfl
          | succ d ih =>
            intro x h0 h2
            simp only [domN]
            rw [decide_eq_true (hin x h0 (by omega)), Bool.true_or, if_pos rfl]
            exact ih (x + 1) (by omega) (by omega)
        exact this n 0 (by omega) (by omega)
  obtain ⟨s, hs, hk⟩ := key
  have : s ∈ sortSS (sortLL (codesL (kindB n e c) (2 ^ n))) := by
    rw [show s ∈ sortSS (sortLL (codesL (kindB n e c) (2 ^ n))) ↔ s ∈ sortLL (codesL (kindB n e c) (2 ^ n)) from List.mem_mergeSort, sortLL_mem, codes_mem hn]
    exact ⟨hs, by unfold kindB; rw [(hs.code hn).2]; exact hk⟩
  exact List.length_pos_of_mem this
end
end Go.Proofs.Ytfaeopmofgnbdaa.P
namespace Go.Proofs.Ytfaeopmofgnbdaa.P
open Go.RowKit Go.Proofs.YtfaeopmofgnbdaaW.PrintWords Go.Proofs.YtfaeopmofgnbdaaW.PrintLast Go.Proofs.YtfaeopmofgnbdaaW.PrintMore
set_option linter.unusedVariables false
set_option linter.unusedSimpArgs false

def xorI (b x : Int) : Int := Go.bits .xor .u64 b (shl .u64 1 x)
theorem xorI_fin : ∀ b : Fin 256, ∀ x : Fin 8, (0 ≤ xorI b x ∧ xorI b x < 256) ∧ ∀ y : Fin 8, hasI (xorI b x) y = (hasI b y != decide (y = x)) := by decide +kernel
theorem xorI_at {b x : Int} (hb : 0 ≤ b ∧ b < 256) (hx : 0 ≤ x ∧ x < 8) : (0 ≤ xorI b x ∧ xorI b x < 256) ∧ ∀ y, 0 ≤ y → y < 8 → hasI (xorI b x) y = (hasI b y != decide (y = x)) := by
  obtain ⟨i, rfl⟩ := fin_of (n := 256) hb.1 hb.2
  obtain ⟨j, rfl⟩ := fin_of (n := 8) hx.1 hx.2
  have h := xorI_fin i j
  refine ⟨h.1, fun y h0 h8 => ?_⟩
  obtain ⟨q, rfl⟩ := fin_of (n := 8) h0 h8
  rw [h.2 q]
  congr 1
  rw [decide_eq_decide]
  omega
theorem bag_ext {b c : Int} (hb : 0 ≤ b ∧ b < 256) (hc : 0 ≤ c ∧ c < 256) (h : ∀ y : Int, 0 ≤ y → y < 8 → hasI b y = hasI c y) : b = c := by
  obtain ⟨n, rfl⟩ := Int.eq_ofNat_of_zero_le hb.1
  obtain ⟨m, rfl⟩ := Int.eq_ofNat_of_zero_le hc.1
  have hn : n < 256 := by omega
  have hm : m < 256 := by omega
  have : n = m := by
    refine Nat.eq_of_testBit_eq fun q => ?_
    by_cases hq : q < 8
    · have := h (q : Int) (by omega) (by omega)
      rwa [hasI_bit n q hn hq, hasI_bit m q hm hq] at this
    · have hp : 256 ≤ 2 ^ q := by show 2 ^ 8 ≤ 2 ^ q; exact Nat.pow_le_pow_right (by decide) (by omega)
      rw [Nat.testBit_lt_two_pow (Nat.lt_of_lt_of_le hn hp), Nat.testBit_lt_two_pow (Nat.lt_of_lt_of_le hm hp)]
  rw [this]
theorem without_loop (l : List Int) (hl : l.length ≤ 1048576) (x : Int) (d : Nat) : ∀ (m : Nat) (acc : List Int), l.length - m = d → m ≤ l.length → acc.length ≤ m → Ev (fun k => spec_l4Without.l0 k l x acc (m : Int)) (acc ++ (l.drop m).filter fun y => decide (y ≠ x)) := by
  induction d with
  | zero =>
    intro m acc h0 h1 h2
    rw [List.drop_eq_nil_of_le (by omega), List.filter_nil, List.append_nil]
    refine Ev.step (fun k => by rw [spec_l4Without.l0]) ?_
    exact Ev.neg (by omega) (Ev.now _)
  | succ d ih =>
    intro m acc h0 h1 h2
    have hm : m < l.length := by omega
    refine Ev.step (fun k => by rw [spec_l4Without.l0]) ?_
    refine Ev.pos (by omega) ?_
    refine Ev.pos (by omega) ?_
    rw [rd_at l m hm, List.drop_eq_getElem_cons hm]
    by_cases c : l[m] = x
    · rw [List.filter_cons_of_neg (by simp [c])]
      refine Ev.pos c ?_
      have := ih (m + 1) acc (by omega) (by omega) (by omega)
      rw [← wrap_up hm (by omega)] at this
      exact this
    · rw [List.filter_cons_of_pos (by simp [c])]
      refine Ev.neg c ?_
      refine Ev.pos (by omega) ?_
      have := ih (m + 1) (acc ++ [l[m]]) (by omega) (by omega) (by simp; omega)
      rw [← wrap_up hm (by omega), List.append_assoc, List.singleton_append] at this
      exact this
theorem put_loop (l : List Int) (hl : l.length ≤ 1048576) (x : Int) (hx : x ∉ l) (d : Nat) : ∀ (m : Nat), l.length - m = d → m ≤ l.length → (∀ y ∈ l.take m, y < x) → ∃ q, q ≤ l.length ∧ (∀ y ∈ l.take q, y < x) ∧ (∀ h : q < l.length, x < l[q]) ∧ Ev (fun k => spec_l1Put.l0 k l x (m : Int)) (l.take q ++ [x] ++ l.drop q) := by
  induction d with
  | zero =>
    intro m h0 h1 h2
    refine ⟨m, h1, h2, fun h => by omega, ?_⟩
    refine Ev.step (fun k => by rw [spec_l1Put.l0]) ?_
    refine Ev.neg (by omega) ?_
    refine Ev.bindo rfl ?_
    refine Ev.pos (by omega) ?_
    refine Ev.pos (by omega) ?_
    rw [Int.toNat_natCast]
    have hl1 : (l.take m).length ≤ l.length := by rw [List.length_take]; omega
    have hl2 : (l.drop m).length ≤ l.length := by rw [List.length_drop]; omega
    refine Ev.pos (by simp only [List.length_nil]; omega) ?_
    refine Ev.bindo rfl ?_
    refine Ev.bindo rfl ?_
    refine Ev.pos (by simp only [List.nil_append, List.length_singleton]; omega) ?_
    refine Ev.bindo rfl ?_
    refine Ev.pos (by simp only [List.nil_append, List.length_append, List.length_singleton]; omega) ?_
    exact Ev.now _
  | succ d ih =>
    intro m h0 h1 h2
    have hm : m < l.length := by omega
    have hne : l[m] ≠ x := fun e => hx (e ▸ List.getElem_mem hm)
    by_cases c : l[m] < x
    · obtain ⟨q, q1, q2, q3, q4⟩ := ih (m + 1) (by omega) (by omega) (fun y hy => by
        rw [List.take_add_one, List.getElem?_eq_getElem hm] at hy
        rcases List.mem_append.1 hy with hy | hy
        · exact h2 y hy
        · rw [show y = l[m] by simpa using hy]; exact c)
      rw [← wrap_up hm (by omega)] at q4
      refine ⟨q, q1, q2, q3, ?_⟩
      refine Ev.step (fun k => by rw [spec_l1Put.l0]) ?_
      refine Ev.pos (by omega) ?_
      refine Ev.pos (by omega) ?_
      rw [rd_at l m hm]
      refine Ev.pos c ?_
      exact q4
    · refine ⟨m, h1, h2, fun h => by omega, ?_⟩
      refine Ev.step (fun k => by rw [spec_l1Put.l0]) ?_
      refine Ev.pos (by omega) ?_
      refine Ev.pos (by omega) ?_
      rw [rd_at l m hm]
      refine Ev.neg c ?_
      refine Ev.neg hne ?_
      refine Ev.bindo rfl ?_
      refine Ev.pos (by omega) ?_
      rw [Int.toNat_natCast]
      have hl1 : (l.take m).length ≤ l.length := by rw [List.length_take]; omega
      have hl2 : (l.drop m).length ≤ l.length := by rw [List.length_drop]; omega
      refine Ev.pos (by simp only [List.length_nil]; omega) ?_
      refine Ev.bindo rfl ?_
      refine Ev.bindo rfl ?_
      refine Ev.pos (by simp only [List.nil_append, List.length_singleton]; omega) ?_
      refine Ev.bindo rfl ?_
      refine Ev.pos (by simp only [List.nil_append, List.length_append, List.length_singleton]; omega) ?_
      exact Ev.now _
/-- What the turned set is. -/
theorem turned_ev (l : List Int) (hl : l.length ≤ 1048575) (hp : l.Pairwise (· < ·)) (x : Int) : ∃ R, Ev (fun k => spec_l4Turned.f k l x) R ∧ R.Pairwise (· < ·) ∧ R.length ≤ l.length + 1 ∧ ∀ y, y ∈ R ↔ (y ∈ l ∧ y ≠ x) ∨ (y = x ∧ x ∉ l) := by
  by_cases hx : x ∈ l
  · refine ⟨l.filter fun y => decide (y ≠ x), ?_, hp.filter _, Nat.le_succ_of_le (List.length_filter_le _ _), fun y => ?_⟩
    · unfold spec_l4Turned.f
      refine Ev.bind (l1Has_ev l x (by omega)) ?_
      refine Ev.pos (decide_eq_true hx) ?_
      refine Ev.bind (a := l.filter fun y => decide (y ≠ x)) ?_ (Ev.now _)
      have := without_loop l (by omega) x (l.length - 0) 0 [] rfl (Nat.zero_le _) (Nat.zero_le _)
      simp only [Int.natCast_zero, List.drop_zero, List.nil_append] at this
      exact this
    · rw [List.mem_filter, decide_eq_true_eq]
      exact ⟨fun h => .inl h, fun h => h.elim id fun h => absurd hx h.2⟩
  · obtain ⟨q, q1, q2, q3, q4⟩ := put_loop l (by omega) x hx (l.length - 0) 0 rfl (Nat.zero_le _) (fun y hy => by simp at hy)
    simp only [Int.natCast_zero] at q4
    refine ⟨l.take q ++ [x] ++ l.drop q, ?_, ?_, ?_, fun y => ?_⟩
    · unfold spec_l4Turned.f
      refine Ev.bind (l1Has_ev l x (by omega)) ?_
      refine Ev.neg (by rw [decide_eq_false hx]; decide) ?_
      exact Ev.bind q4 (Ev.now _)
    · have hd : ∀ y ∈ l.drop q, x < y := fun y hy => by
        have hq : q < l.length := by
          rcases Nat.lt_or_ge q l.length with h | h
          · exact h
          · rw [List.drop_eq_nil_of_le h] at hy; cases hy
        have h3 := q3 hq
        have h4 := hp.sublist (List.drop_sublist q l)
        rw [List.drop_eq_getElem_cons hq] at hy h4
        rcases List.mem_cons.1 hy with rfl | hy
        · exact h3
        · have := (List.pairwise_cons.1 h4).1 y hy; omega
      rw [List.append_assoc, List.pairwise_append]
      refine ⟨hp.sublist (List.take_sublist q l), ?_, fun a ha b hb => ?_⟩
      · rw [List.singleton_append, List.pairwise_cons]
        exact ⟨hd, hp.sublist (List.drop_sublist q l)⟩
      · have h1 := q2 a ha
        rw [List.singleton_append] at hb
        rcases List.mem_cons.1 hb with rfl | hb
        · exact h1
        · have := hd b hb; omega
    · rw [List.length_append, List.length_append, List.length_take, List.length_drop, List.length_singleton]; omega
    · have e : y ∈ l ↔ y ∈ l.take q ∨ y ∈ l.drop q := by rw [← List.mem_append, List.take_append_drop]
      rw [List.mem_append, List.mem_append, List.mem_singleton]
      constructor
      · rintro ((h | h) | h)
        · exact .inl ⟨e.2 (.inl h), fun e' => hx (e' ▸ e.2 (.inl h))⟩
        · exact .inr ⟨h, hx⟩
        · exact .inl ⟨e.2 (.inr h), fun e' => hx (e' ▸ e.2 (.inr h))⟩
      · rintro (h | h)
        · rcases e.1 h.1 with h' | h'
          · exact .inl (.inl h')
          · exact .inr h'
        · exact .inl (.inr h.1)
theorem rising_len (l : List Int) : ∀ (lo hi : Int), l.Pairwise (· < ·) → (∀ x ∈ l, lo ≤ x ∧ x ≤ hi) → l.length ≤ (hi + 1 - lo).toNat := by
  induction l with
  | nil => intro lo hi _ _; exact Nat.zero_le _
  | cons x t ih =>
    intro lo hi hp hb
    obtain ⟨h1, h2⟩ := List.pairwise_cons.1 hp
    have hx := hb x (.head _)
    have := ih (x + 1) hi h2 (fun y hy => ⟨by have := h1 y hy; omega, (hb y (.tail _ hy)).2⟩)
    rw [List.length_cons]
    omega
end Go.Proofs.Ytfaeopmofgnbdaa.P
namespace Go.Proofs.Ytfaeopmofgnbdaa.P
open Go.RowKit Go.Proofs.YtfaeopmofgnbdaaW.PrintWords Go.Proofs.YtfaeopmofgnbdaaW.PrintLast Go.Proofs.YtfaeopmofgnbdaaW.PrintMore
set_option linter.unusedVariables false
set_option linter.unusedSimpArgs false

theorem best_loop (c : Int) (T : List (List Int)) (hT : T.length ≤ 1048576) (hs : ∀ s ∈ T, s.length ≤ 1048576) (d : Nat) : ∀ (m : Nat) (b : List Int), T.length - m = d → m ≤ T.length → Ev (fun k => spec_l4Best.l0 k c T b (m : Int)) ((T.drop m).foldl (bestStep c) b) := by
  induction d with
  | zero =>
    intro m b h0 h1
    rw [List.drop_eq_nil_of_le (by omega)]
    refine Ev.step (fun k => by rw [spec_l4Best.l0]) ?_
    exact Ev.neg (by omega) (Ev.now _)
  | succ d ih =>
    intro m b h0 h1
    have hm : m < T.length := by omega
    have h2 := ih (m + 1) (bestStep c b T[m]) (by omega) (by omega)
    rw [← wrap_up hm (by omega)] at h2
    rw [List.drop_eq_getElem_cons hm, List.foldl_cons]
    refine Ev.step (fun k => by rw [spec_l4Best.l0]) ?_
    refine Ev.pos (by omega) ?_
    by_cases c2 : c = 2
    · refine Ev.pos c2 ?_
      refine Ev.pos (by omega) ?_
      rw [rdL_at T m hm]
      by_cases cl : b.length < T[m].length
      · rw [show bestStep c b T[m] = T[m] from if_pos ⟨c2, cl⟩] at h2 ⊢
        exact Ev.pos (by omega) h2
      · rw [show bestStep c b T[m] = b from if_neg (fun h => cl h.2)] at h2 ⊢
        exact Ev.neg (by omega) h2
    · rw [show bestStep c b T[m] = b from if_neg (fun h => c2 h.1)] at h2 ⊢
      exact Ev.neg c2 h2
theorem best_spec (n : Nat) (hn : n ≤ 8) (e : List S48) (c : Int) (he : e.length ≤ 1048576) (hg : okG (n : Int) e = true) : Ev (fun k => spec_l4Best.f k (n : Int) e c) (bestL c (sortSS (sortLL (codesL (kindB n e c) (2 ^ n))))) := by
  have hpow : 2 ^ n ≤ 256 := Nat.pow_le_pow_right (n := 2) (by decide) (show n ≤ 8 from hn)
  have h1 := l4Sets_ev n hn e c he
  have h2 := kind_some n hn e c hg
  have hlen : (sortSS (sortLL (codesL (kindB n e c) (2 ^ n)))).length ≤ 256 := by
    rw [show (sortSS (sortLL (codesL (kindB n e c) (2 ^ n)))).length = _ from List.length_mergeSort _, sortLL_len]
    exact Nat.le_trans (codesL_len _ _) hpow
  have hs : ∀ s ∈ sortSS (sortLL (codesL (kindB n e c) (2 ^ n))), s.length ≤ 1048576 := fun s hs => by
    rw [show s ∈ sortSS (sortLL (codesL (kindB n e c) (2 ^ n))) ↔ s ∈ sortLL (codesL (kindB n e c) (2 ^ n)) from List.mem_mergeSort, sortLL_mem, codes_mem hn] at hs
    have := hs.1.len
    omega
  generalize sortSS (sortLL (codesL (kindB n e c) (2 ^ n))) = T at h1 h2 hlen hs ⊢
  unfold spec_l4Best.f
  refine Ev.bind h1 ?_
  refine Ev.pos (by omega) ?_
  have h3 := best_loop c T (by omega) hs (T.length - 1) 1 (rd_L2 T 0) rfl (by omega)
  have h4 : (T.drop 1).foldl (bestStep c) (rd_L2 T 0) = bestL c T := by
    cases T with
    | nil => simp at h2
    | cons x t =>
      show t.foldl (bestStep c) x = (x :: t).foldl (bestStep c) x
      rw [List.foldl_cons, show bestStep c x x = x from by unfold bestStep; split <;> rfl]
  rw [h4] at h3
  exact h3
theorem best_impl (n : Nat) (hn : n ≤ 8) (e : List S48) (c : Int) (he : e.length ≤ 1048576) (hg : okG (n : Int) e = true) : Ev (fun k => impl_Graph_best.f k (n : Int) e c) (bestL c (sortSS (sortLL (codesL (kindB n e c) (2 ^ n))))) := by
  unfold impl_Graph_best.f
  refine Ev.bind (ofKind_ev n hn e c he hg) ?_
  exact Ev.pos (kind_some n hn e c hg) (Ev.now _)
end Go.Proofs.Ytfaeopmofgnbdaa.P
namespace Go.Proofs.Ytfaeopmofgnbdaa.P
open Go.RowKit Go.Proofs.YtfaeopmofgnbdaaW.PrintWords Go.Proofs.YtfaeopmofgnbdaaW.PrintLast Go.Proofs.YtfaeopmofgnbdaaW.PrintMore
set_option linter.unusedVariables false
set_option linter.unusedSimpArgs false
section
variable (a : Int) (e : List S48) (c : Int) (l : List Int) (he : e.length ≤ 1048576) (hl : l.length ≤ 1048576) (hg : okG a e = true) (hr : risI 0 (wrap64 (a - 1)) none l = true)
/-- A set with one node more, or without it. -/
def Turned (l : List Int) (x : Int) (R : List Int) : Prop := R.Pairwise (· < ·) ∧ ∀ y, y ∈ R ↔ (y ∈ l ∧ y ≠ x) ∨ (y = x ∧ x ∉ l)
include he hl hg hr
theorem turned_full (x : Int) (hx : 0 ≤ x ∧ x < a) :
    ∃ (R : List Int), Turned l x R ∧ (∀ y ∈ R, 0 ≤ y ∧ y < a) ∧ Ev (fun k => spec_l4Turned.f k l x) R ∧ Ev (fun k => spec_l4Has.f k a e c R) (kindI a e c R) ∧ Ev (fun k => impl_Graph_hasKind.f k a e c (Go.bits .xor .u64 (bagI 0 l) (shl .u64 1 x))) (kindI a e c R) := by
  have h1 := okG_all hg
  have hw : wrap64 (a - 1) = a - 1 := wrap_nat (by omega) (by omega)
  have hsm := set_small hg hr
  have hp := (risI_pw 0 (wrap64 (a - 1)) l none hr).1
  have hb0 := risI_all 0 (wrap64 (a - 1)) l none hr
  have hlen : l.length ≤ 8 := by
    have := rising_len l 0 7 hp (fun y hy => by have := hsm y hy; omega)
    omega
  obtain ⟨R, r1, r2, r3, r4⟩ := turned_ev l (by omega) hp x
  have hR : ∀ y ∈ R, 0 ≤ y ∧ y ≤ wrap64 (a - 1) := fun y hy => by
    rcases (r4 y).1 hy with h | h
    · exact hb0 y h.1
    · rw [hw]; omega
  have hrR := risI_of 0 (wrap64 (a - 1)) R none r2 hR (fun q e => by cases e)
  refine ⟨R, ⟨r2, r4⟩, fun y hy => by have := hR y hy; rw [hw] at this; omega, r1, l4Has_ev a e c R he (by omega) h1.2.1, ?_⟩
  have hB := bagI_at l 0 (by omega) hsm
  have hX := xorI_at hB.1 (x := x) (by omega)
  have hBR := bagI_at R 0 (by omega) (set_small hg hrR)
  have heq : Go.bits .xor .u64 (bagI 0 l) (shl .u64 1 x) = bagI 0 R := by
    refine bag_ext hX.1 hBR.1 fun y h0 h8 => ?_
    show hasI (xorI (bagI 0 l) x) y = _
    rw [hX.2 y h0 h8, hB.2 y h0 h8, hBR.2 y h0 h8, hasI_nil h0 h8, Bool.false_or, Bool.false_or, Bool.eq_iff_iff, bne_iff_ne, decide_eq_true_eq, r4]
    by_cases c1 : y ∈ l
    · by_cases c2 : y = x
      · subst c2; simp [c1]
      · simp [c1, c2]
    · by_cases c2 : y = x
      · subst c2; simp [c1]
      · simp [c1, c2]
  rw [heq]
  exact hasKind_ev a e c R he (by omega) hg hrR
theorem tight_walk (d : Nat) : ∀ (x : Int), (a - x).toNat = d → 0 ≤ x → ∃ b : Bool, Ev (fun k => spec_l4Tight.l0 k c l x a e) b ∧ Ev (fun k => impl_Graph_isTight.l0 k c (bagI 0 l) a x a e) b ∧
    (b = false → ∃ y R, (decide (y ∈ l) == (c != 2)) = true ∧ Turned l y R ∧ (∀ z ∈ R, 0 ≤ z ∧ z < a) ∧ kindI a e c R = true) := by
  have h1 := okG_all hg
  have hsm := set_small hg hr
  have hB := bagI_at l 0 (by omega) hsm
  induction d with
  | zero =>
    intro x h0 hx
    refine ⟨true, ?_, ?_, fun h => by cases h⟩
    · refine Ev.step (fun k => by rw [spec_l4Tight.l0]) ?_
      exact Ev.neg (by omega) (Ev.now _)
    · refine Ev.step (fun k => by rw [impl_Graph_isTight.l0]) ?_
      exact Ev.neg (by omega) (Ev.now _)
  | succ d ih =>
    intro x h0 hx
    have hxa : x < a := by omega
    obtain ⟨T, tt, tr, t1, t2, t3⟩ := turned_full a e c l he hl hg hr x ⟨hx, hxa⟩
    obtain ⟨R, r1, r2, r3⟩ := ih (x + 1) (by omega) (by omega)
    rw [← show wrap64 (x + 1) = x + 1 from wrap_nat (by omega) (by omega)] at r1 r2
    have hh : hasI (bagI 0 l) x = decide (x ∈ l) := by rw [hB.2 x hx (by omega), hasI_nil hx (by omega), Bool.false_or]
    by_cases ck : (decide (x ∈ l) == (c != 2)) = true
    · have ck2 : (decide (x ∈ l) != (c == 2)) = true := by
        revert ck
        cases decide (x ∈ l) <;> by_cases c2 : c = 2 <;> simp [c2, bne]
      cases hb : kindI a e c T with
      | true =>
        rw [hb] at t2 t3
        refine ⟨false, ?_, ?_, fun _ => ⟨x, T, ck, tt, tr, hb⟩⟩
        · refine Ev.step (fun k => by rw [spec_l4Tight.l0]) ?_
          refine Ev.pos hxa ?_
          refine Ev.bind (l1Has_ev l x hl) ?_
          refine Ev.pos ck ?_
          refine Ev.bind t1 ?_
          refine Ev.bind t2 ?_
          exact Ev.pos rfl (Ev.now _)
        · refine Ev.step (fun k => by rw [impl_Graph_isTight.l0]) ?_
          refine Ev.pos hxa ?_
          refine Ev.bindo (bag_has_at hx) ?_
          rw [hh]
          refine Ev.pos ck2 ?_
          refine Ev.pos hx ?_
          refine Ev.bind t3 ?_
          exact Ev.pos rfl (Ev.now _)
      | false =>
        rw [hb] at t2 t3
        refine ⟨R, ?_, ?_, r3⟩
        · refine Ev.step (fun k => by rw [spec_l4Tight.l0]) ?_
          refine Ev.pos hxa ?_
          refine Ev.bind (l1Has_ev l x hl) ?_
          refine Ev.pos ck ?_
          refine Ev.bind t1 ?_
          refine Ev.bind t2 ?_
          refine Ev.neg (by decide) ?_
          exact r1
        · refine Ev.step (fun k => by rw [impl_Graph_isTight.l0]) ?_
          refine Ev.pos hxa ?_
          refine Ev.bindo (bag_has_at hx) ?_
          rw [hh]
          refine Ev.pos ck2 ?_
          refine Ev.pos hx ?_
          refine Ev.bind t3 ?_
          refine Ev.neg (by decide) ?_
          exact r2
    · have ck2 : ¬ (decide (x ∈ l) != (c == 2)) = true := by
        revert ck
        cases decide (x ∈ l) <;> by_cases c2 : c = 2 <;> simp [c2, bne]
      refine ⟨R, ?_, ?_, r3⟩
      · refine Ev.step (fun k => by rw [spec_l4Tight.l0]) ?_
        refine Ev.pos hxa ?_
        refine Ev.bind (l1Has_ev l x hl) ?_
        refine Ev.neg ck ?_
        exact r1
      · refine Ev.step (fun k => by rw [impl_Graph_isTight.l0]) ?_
        refine Ev.pos hxa ?_
        refine Ev.bindo (bag_has_at hx) ?_
        rw [hh]
        refine Ev.neg ck2 ?_
        exact r2
end
theorem pw_same : ∀ (l m : List Int), l.Pairwise (· < ·) → m.Pairwise (· < ·) → (∀ y, y ∈ l ↔ y ∈ m) → l = m := by
  intro l
  induction l with
  | nil =>
    intro m _ _ h
    cases m with
    | nil => rfl
    | cons y t => exact absurd ((h y).2 (.head _)) (by simp)
  | cons x s ih =>
    intro m hl hm h
    cases m with
    | nil => exact absurd ((h x).1 (.head _)) (by simp)
    | cons y t =>
      rw [List.pairwise_cons] at hl hm
      have hxy : x = y := by
        rcases List.mem_cons.1 ((h x).1 (.head _)) with q | q
        · exact q
        · rcases List.mem_cons.1 ((h y).2 (.head _)) with p | p
          · exact p.symm
          · have := hl.1 y p; have := hm.1 x q; omega
      subst hxy
      congr 1
      refine ih t hl.2 hm.2 (fun z => ?_)
      constructor
      · intro hz
        rcases List.mem_cons.1 ((h z).1 (.tail _ hz)) with q | q
        · subst q; have := hl.1 z hz; omega
        · exact q
      · intro hz
        rcases List.mem_cons.1 ((h z).2 (.tail _ hz)) with q | q
        · subst q; have := hm.1 z hz; omega
        · exact q
theorem turned_less {l R : List Int} {x : Int} (hp : l.Pairwise (· < ·)) (h : Turned l x R) (hx : x ∈ l) : R.length < l.length := by
  have e : R = l.filter (fun y => decide (y ≠ x)) := pw_same _ _ h.1 (hp.sublist List.filter_sublist) (fun y => by
    rw [h.2, List.mem_filter, decide_eq_true_eq]
    constructor
    · rintro (q | q)
      · exact q
      · exact absurd hx q.2
    · exact fun q => .inl q)
  rw [e]
  rw [List.length_filter_lt_length_iff_exists]
  exact ⟨x, hx, by simp⟩
theorem turned_more {l R : List Int} {x : Int} (hp : l.Pairwise (· < ·)) (h : Turned l x R) (hx : x ∉ l) : l.length < R.length := by
  have hxR : x ∈ R := (h.2 x).2 (.inr ⟨rfl, hx⟩)
  have e : l = R.filter (fun y => decide (y ≠ x)) := pw_same _ _ hp (h.1.sublist List.filter_sublist) (fun y => by
    rw [List.mem_filter, decide_eq_true_eq, h.2]
    constructor
    · intro q
      have : y ≠ x := fun e => hx (e ▸ q)
      exact ⟨.inl ⟨q, this⟩, this⟩
    · rintro ⟨q | q, hy⟩
      · exact q.1
      · exact absurd q.1 hy)
  rw [e]
  rw [List.length_filter_lt_length_iff_exists]
  exact ⟨x, hxR, by simp⟩
theorem befS_len {x y : List Int} (h : befS x y = true) : x.length ≤ y.length := by
  rw [befS_eq] at h
  by_cases c : x.length = y.length
  · omega
  · rw [if_neg c, decide_eq_true_eq] at h
    omega
section
variable (n : Nat) (hn : n ≤ 8) (e : List S48) (c : Int) (he : e.length ≤ 1048576) (hg : okG (n : Int) e = true)
include hn he hg
/-- Which sets of a kind are tight: both sides tell alike; of one that is not another one is told. -/
theorem tights : ∃ B : List Int → Bool, ∀ s ∈ levels n e c (n + 1) 0, Ev (fun k => spec_l4Tight.f k (n : Int) e c s) (B s) ∧ Ev (fun k => tight1 k (n : Int) e c s) (B s) ∧
    (B s = false → ∃ y R, (decide (y ∈ s) == (c != 2)) = true ∧ Turned s y R ∧ R ∈ levels n e c (n + 1) 0) := by
  have key : ∀ s : List Int, ∃ b : Bool, s ∈ levels n e c (n + 1) 0 → Ev (fun k => spec_l4Tight.f k (n : Int) e c s) b ∧ Ev (fun k => tight1 k (n : Int) e c s) b ∧
    (b = false → ∃ y R, (decide (y ∈ s) == (c != 2)) = true ∧ Turned s y R ∧ R ∈ levels n e c (n + 1) 0) := by
    intro s
    by_cases hs : s ∈ levels n e c (n + 1) 0
    · have hm := (levels_mem n hn e c (n + 1) 0 s).1 hs
      have hw : wrap64 ((n : Int) - 1) = (n : Int) - 1 := wrap_nat (by omega) (by omega)
      have hr : risI 0 (wrap64 ((n : Int) - 1)) none s = true := risI_of 0 _ s none hm.1.1 (fun y hy => by have := hm.1.2 y hy; rw [hw]; omega) (fun q e => by cases e)
      have hl : s.length ≤ 1048576 := by omega
      obtain ⟨b, b1, b2, b3⟩ := tight_walk (n : Int) e c s he hl hg hr ((n : Int) - 0).toNat 0 rfl (Int.le_refl _)
      refine ⟨b, fun _ => ⟨b1, ?_, fun hb => ?_⟩⟩
      · unfold tight1
        exact Ev.bind (bagOf_ev s hl (set_small hg hr)) b2
      · obtain ⟨y, R, y1, y2, y3, y4⟩ := b3 hb
        refine ⟨y, R, y1, y2, (levels_mem n hn e c (n + 1) 0 R).2 ⟨⟨y2.1, fun z hz => y3 z hz⟩, y4, Nat.zero_le _, ?_⟩⟩
        have := rising_len R 0 ((n : Int) - 1) y2.1 (fun z hz => by have := y3 z hz; omega)
        omega
    · exact ⟨true, fun h => absurd h hs⟩
  exact ⟨fun s => Classical.choose (key s), fun s hs => Classical.choose_spec (key s) hs⟩
end
section
variable (n : Nat) (hn : n ≤ 8) (e : List S48) (c : Int)
include hn
theorem tight_one (B : List Int → Bool) (hB : ∀ s ∈ levels n e c (n + 1) 0, (B s = false → ∃ y R, (decide (y ∈ s) == (c != 2)) = true ∧ Turned s y R ∧ R ∈ levels n e c (n + 1) 0)) (h0 : 0 < (levels n e c (n + 1) 0).length) : 0 < ((levels n e c (n + 1) 0).filter B).length := by
  have hpw := levels_pw n hn e c (n + 1) 0
  have hm := fun s => (levels_mem n hn e c (n + 1) 0 s)
  generalize levels n e c (n + 1) 0 = T at *
  by_cases c2 : c = 2
  · -- the last one
    have hne : T ≠ [] := List.length_pos_iff.1 h0
    have hlast := List.getLast_mem hne
    have hb : B (T.getLast hne) = true := by
      cases hb : B (T.getLast hne) with
      | true => rfl
      | false =>
        obtain ⟨y, R, y1, y2, y3⟩ := hB _ hlast hb
        have hy : y ∉ T.getLast hne := by
          intro q
          rw [decide_eq_true q, c2] at y1
          exact absurd y1 (by decide)
        have h1 := turned_more ((hm _).1 hlast).1.1 y2 hy
        have h2 : R.length ≤ (T.getLast hne).length := by
          obtain ⟨init, hi⟩ : ∃ init, T = init ++ [T.getLast hne] := ⟨T.dropLast, (List.dropLast_concat_getLast hne).symm⟩
          rw [hi] at y3 hpw
          rcases List.mem_append.1 y3 with q | q
          · exact befS_len ((List.pairwise_append.1 hpw).2.2 R q _ (List.mem_singleton.2 rfl))
          · rw [List.mem_singleton.1 q]
            exact Nat.le_refl _
        omega
    exact List.length_pos_of_mem (List.mem_filter.2 ⟨hlast, hb⟩)
  · cases T with
    | nil => simp at h0
    | cons x T =>
      have hb : B x = true := by
        cases hb : B x with
        | true => rfl
        | false =>
          obtain ⟨y, R, y1, y2, y3⟩ := hB x (List.mem_cons_self ..) hb
          have hy : y ∈ x := by
            by_cases q : y ∈ x
            · exact q
            · rw [decide_eq_false q] at y1
              have : (c != 2) = true := bne_iff_ne.2 c2
              rw [this] at y1
              exact absurd y1 (by decide)
          have h1 := turned_less ((hm x).1 (List.mem_cons_self ..)).1.1 y2 hy
          have h2 : x.length ≤ R.length := by
            rcases List.mem_cons.1 y3 with q | q
            · rw [q]; exact Nat.le_refl _
            · exact befS_len ((List.pairwise_cons.1 hpw).1 R q)
          omega
      exact List.length_pos_of_mem (List.mem_filter.2 ⟨List.mem_cons_self .., hb⟩)
end
theorem tightsets_loop (n : Int) (e : List S48) (c : Int) (B : List Int → Bool) (T : List (List Int)) (hT : T.length ≤ 1048576) (hB : ∀ s ∈ T, Ev (fun k => spec_l4Tight.f k n e c s) (B s)) (d : Nat) : ∀ (m : Nat) (acc : List (List Int)), T.length - m = d → m ≤ T.length → acc.length ≤ m →
    Ev (fun k => spec_TightSets.l0 k c acc T (m : Int) n e) (acc ++ (T.drop m).filter B, true) := by
  induction d with
  | zero =>
    intro m acc h0 h1 h2
    rw [List.drop_eq_nil_of_le (by omega), List.filter_nil, List.append_nil]
    refine Ev.step (fun k => by rw [spec_TightSets.l0]) ?_
    exact Ev.neg (by omega) (Ev.now _)
  | succ d ih =>
    intro m acc h0 h1 h2
    have hm : m < T.length := by omega
    refine Ev.step (fun k => by rw [spec_TightSets.l0]) ?_
    refine Ev.pos (by omega) ?_
    refine Ev.pos (by omega) ?_
    rw [rdL_at T m hm, wrap_up hm (by omega), List.drop_eq_getElem_cons hm]
    refine Ev.bind (hB _ (List.getElem_mem hm)) ?_
    cases hb : B T[m] with
    | true =>
      rw [List.filter_cons, if_pos hb]
      refine Ev.pos rfl ?_
      refine Ev.pos (by omega) ?_
      have := ih (m + 1) (acc ++ [T[m]]) (by omega) (by omega) (by rw [List.length_append, List.length_singleton]; omega)
      rw [List.append_assoc] at this
      exact this
    | false =>
      rw [List.filter_cons, if_neg (by rw [hb]; decide)]
      refine Ev.neg (by decide) ?_
      exact ih (m + 1) acc (by omega) (by omega) (by omega)
theorem all_rounds {α : Type} {g : Nat → List Int → Option α} {B : List Int → α} : ∀ (T : List (List Int)), (∀ s ∈ T, Ev (fun k => g k s) (B s)) → ∃ K, ∀ k, K ≤ k → ∀ s ∈ T, g k s = some (B s)
  | [], _ => ⟨0, fun k _ s hs => absurd hs (by simp)⟩
  | x :: T, h => by
    obtain ⟨K1, h1⟩ := all_rounds T (fun s hs => h s (List.mem_cons_of_mem _ hs))
    obtain ⟨K2, h2⟩ := h x (List.mem_cons_self ..)
    refine ⟨max K1 K2, fun k hk s hs => ?_⟩
    rcases List.mem_cons.1 hs with rfl | hs
    · exact h2 k (by omega)
    · exact h1 k (by omega) s hs
theorem tight_impl (n : Int) (e : List S48) (c : Int) (B : List Int → Bool) (T : List (List Int)) (hT : T.length ≤ 1048576) (hO : Ev (fun k => impl_Graph_ofKind.f k n e c) T) (hB : ∀ s ∈ T, Ev (fun k => tight1 k n e c s) (B s)) : Ev (fun k => impl_Graph_tight.f k n e c) (T.filter B) := by
  unfold impl_Graph_tight.f
  refine Ev.bind hO ?_
  obtain ⟨K, hK⟩ := all_rounds (g := fun k s => tight1 k n e c s) T hB
  refine ⟨K, fun k hk => ?_⟩
  have h := hK k hk
  have h1 : tightOk k n e c T = true := by
    unfold tightOk
    rw [Bool.and_eq_true, List.all_eq_true]
    exact ⟨fun s hs => by rw [h s hs]; rfl, decide_eq_true hT⟩
  show (if tightOk k n e c T = true then some (T.filter (tightP k n e c)) else none) = _
  rw [if_pos h1]
  congr 1
  refine List.filter_congr (fun s hs => ?_)
  unfold tightP
  rw [h s hs]
  rfl
theorem most_mx (a : Int) : spec_l1Most.f a 0 = some (mx 0 a) := by
  unfold spec_l1Most.f mx
  split <;> rfl
theorem least_mn (a b : Int) : spec_l1Least.f a b = some (mn b a) := by
  unfold spec_l1Least.f mn
  split <;> rfl
theorem Both_FnExactWideNumber (a0_0 : Int) (l0_1 : List S48) (a1 : Int) (w0_0 : (Lit.int .i64 a0_0).wf = true) (w0_1 : FitP l0_1) (w1 : (Lit.int .i64 a1).wf = true) (hn0 : l0_1.length ≤ 1048576) : ∃ (q0 : Int) (q1 : Bool), Ev (fun k => spec_WideNumber.f k a0_0 l0_1 a1) (q0, q1) ∧ Ev (fun k => impl_WideNumber.f k a0_0 l0_1 a1) (q0, q1) := by
  by_cases h : okG a0_0 l0_1 = true
  · by_cases hc : 1 ≤ a1 ∧ a1 ≤ 3
    · have h1 := okG_all h
      obtain ⟨n, rfl⟩ := Int.eq_ofNat_of_zero_le h1.1
      have hn : n ≤ 8 := by omega
      obtain ⟨B, hB⟩ := tights n hn l0_1 a1 hn0 h
      have hTl : (levels n l0_1 a1 (n + 1) 0).length ≤ 1048576 := by have := levels_len n hn l0_1 a1 (n + 1) 0; omega
      have h0 : 0 < (levels n l0_1 a1 (n + 1) 0).length := by rw [levels_eq n hn l0_1 a1]; exact kind_some n hn l0_1 a1 h
      have hL := tight_one n hn l0_1 a1 B (fun s hs => (hB s hs).2.2) h0
      have hS := l4Sets_ev n hn l0_1 a1 hn0
      have hO := ofKind_ev n hn l0_1 a1 hn0 h
      have hbs := best_spec n hn l0_1 a1 hn0 h
      have hbi := best_impl n hn l0_1 a1 hn0 h
      rw [← levels_eq n hn l0_1 a1] at hS hO hbs hbi
      have hloop := tightsets_loop (n : Int) l0_1 a1 B _ hTl (fun s hs => (hB s hs).1) _ 0 [] rfl (Nat.zero_le _) (Nat.le_refl _)
      have himp := tight_impl (n : Int) l0_1 a1 B _ hTl hO (fun s hs => (hB s hs).2.1)
      rw [List.drop_zero, List.nil_append] at hloop
      have hfl : ((levels n l0_1 a1 (n + 1) 0).filter B).length ≤ 1048576 := Nat.le_trans (List.length_filter_le _ _) hTl
      have hgood : Ev (fun k => spec_l4Good.f k (n : Int) l0_1 a1) true := by
        unfold spec_l4Good.f
        refine Ev.bind (l2Good_ev _ _ hn0) (Ev.pos h (Ev.bindo (l4Kind_at a1) ?_))
        have : (decide (1 ≤ a1) && decide (a1 ≤ 3)) = true := by simp [hc]
        rw [this]
        exact Ev.now _
      have hts : Ev (fun k => spec_TightSets.f k (n : Int) l0_1 a1) ((levels n l0_1 a1 (n + 1) 0).filter B, true) := by
        unfold spec_TightSets.f
        refine Ev.bindo rfl ?_
        refine Ev.bind hgood (Ev.pos rfl ?_)
        exact Ev.bind hS hloop
      generalize (levels n l0_1 a1 (n + 1) 0).filter B = F at *
      generalize bestL a1 (levels n l0_1 a1 (n + 1) 0) = best at *
      have hw : wrap64 ((F.length : Int) - 1) = (F.length : Int) - 1 := wrap_nat (by omega) (by omega)
      have himp2 : ∀ v : Int × Bool, Ev (fun k => (impl_Graph_tight.f k (n : Int) l0_1 a1).bind fun t419 => ((impl_Graph_best.f k (n : Int) l0_1 a1).bind fun t422 => some v)) v := fun v => Ev.bind himp (Ev.bind hbi (Ev.now _))
      by_cases c2 : a1 = 2
      · refine ⟨mx 0 (wrap64 ((wrap64 (((rd_L2 F 0).length : Int) + (best.length : Int))) - (n : Int))), true, ?_, ?_⟩
        · unfold spec_WideNumber.f
          refine Ev.bind hgood (Ev.pos rfl ?_)
          refine Ev.bind hts ?_
          refine Ev.bind hbs ?_
          refine Ev.pos c2 ?_
          refine Ev.pos (by show (0 : Int) < (F.length : Int); omega) ?_
          refine Ev.bindo (most_mx _) (Ev.now _)
        · unfold impl_WideNumber.f
          refine Ev.bind (impl_IsGraph_ev _ _ hn0) ?_
          refine Ev.pos h ?_
          refine Ev.bindo (kind_at a1) ?_
          refine Ev.step (fun k => by rw [impl_WideNumber.j0]) ?_
          refine Ev.neg (by simp [hc]) ?_
          refine Ev.bind himp ?_
          refine Ev.bind hbi ?_
          refine Ev.pos c2 ?_
          exact Ev.pos (by omega) (Ev.now _)
      · refine ⟨mn (n : Int) (wrap64 (((rd_L2 F (wrap64 ((F.length : Int) - 1))).length : Int) + (best.length : Int))), true, ?_, ?_⟩
        · unfold spec_WideNumber.f
          refine Ev.bind hgood (Ev.pos rfl ?_)
          refine Ev.bind hts ?_
          refine Ev.bind hbs ?_
          refine Ev.neg c2 ?_
          refine Ev.pos (by show 0 ≤ wrap64 ((F.length : Int) - 1); rw [hw]; omega) ?_
          refine Ev.pos (by show wrap64 ((F.length : Int) - 1) < (F.length : Int); rw [hw]; omega) ?_
          refine Ev.bindo (least_mn _ _) (Ev.now _)
        · unfold impl_WideNumber.f
          refine Ev.bind (impl_IsGraph_ev _ _ hn0) ?_
          refine Ev.pos h ?_
          refine Ev.bindo (kind_at a1) ?_
          refine Ev.step (fun k => by rw [impl_WideNumber.j0]) ?_
          refine Ev.neg (by simp [hc]) ?_
          refine Ev.bind himp ?_
          refine Ev.bind hbi ?_
          refine Ev.neg c2 ?_
          refine Ev.pos (by rw [hw]; omega) ?_
          exact Ev.pos (by rw [hw]; omega) (Ev.now _)
    · refine ⟨0, false, ?_, ?_⟩
      · unfold spec_WideNumber.f spec_l4Good.f
        refine Ev.bind (Ev.bind (l2Good_ev _ _ hn0) (Ev.pos h (Ev.bindo (l4Kind_at a1) (Ev.now _)))) ?_
        exact Ev.neg (by simp; omega) (Ev.now _)
      · unfold impl_WideNumber.f
        refine Ev.bind (impl_IsGraph_ev _ _ hn0) ?_
        refine Ev.pos h ?_
        refine Ev.bindo (kind_at a1) ?_
        refine Ev.step (fun k => by rw [impl_WideNumber.j0]) ?_
        exact Ev.pos (by simp; omega) (Ev.now _)
  · refine ⟨0, false, ?_, ?_⟩
    · unfold spec_WideNumber.f spec_l4Good.f
      refine Ev.bind (Ev.bind (l2Good_ev _ _ hn0) (Ev.neg h (Ev.now _))) ?_
      exact Ev.neg (by decide) (Ev.now _)
    · unfold impl_WideNumber.f
      refine Ev.bind (impl_IsGraph_ev _ _ hn0) ?_
      refine Ev.neg h ?_
      refine Ev.step (fun k => by rw [impl_WideNumber.j0]) ?_
      exact Ev.pos rfl (Ev.now _)
end Go.Proofs.Ytfaeopmofgnbdaa.P
