/- Covers, cliques and dominating sets, as both sides test them. -/
import Derived.Test.YtpbngmkhpcgpkaaFactE
import Derived.Test.YtpbngmkhpcgpkaaFactN
import Derived.Test.YtpbngmkhpcgpkaaFactO
import Derived.Test.YtpbngmkhpcgpkaaPx35
import Derived.Test.YtpbngmkhpcgpkaaPx38
namespace Go.Proofs.Ytpbngmkhpcgpkaa.P
open Go.RowKit Go.Proofs.YtpbngmkhpcgpkaaW.PrintWords Go.Proofs.YtpbngmkhpcgpkaaW.PrintLast Go.Proofs.YtpbngmkhpcgpkaaW.PrintMore
set_option linter.unusedVariables false

/-! What two bags have in common. -/
theorem wraps8 (n : Int) (h0 : 0 ≤ n) (h1 : n < 2 ^ 8) : IntKind.u64.wrap n = n := by
  simp [IntKind.wrap, IntKind.bits, IntKind.signed]
  omega
theorem hasI_bit (n y : Nat) (hn : n < 256) (hy : y < 8) : hasI (n : Int) (y : Int) = n.testBit y := by
  unfold hasI shr
  have e : (n : Int) / 2 ^ min (y : Int).toNat IntKind.u64.bits = ((n / 2 ^ y : Nat) : Int) := by
    rw [Int.toNat_natCast, Nat.min_eq_left (by show y ≤ 64; omega)]
    simp
  rw [e, show (1 : Int) = ((1 : Nat) : Int) from rfl, (bits_nat .u64 8 (by decide) wraps8 (n / 2 ^ y) 1 (Nat.lt_of_le_of_lt (Nat.div_le_self _ _) hn) (by decide)).1, Nat.and_one_is_mod, Nat.testBit_eq_decide_div_mod_eq, Bool.eq_iff_iff, beq_iff_eq, decide_eq_true_eq]
  omega
theorem andI_zero {b c : Int} (hb : 0 ≤ b ∧ b < 256) (hc : 0 ≤ c ∧ c < 256) : Go.bits .and .u64 b c = 0 ↔ ∀ y : Int, 0 ≤ y → y < 8 → ¬ (hasI b y = true ∧ hasI c y = true) := by
  obtain ⟨n, rfl⟩ := Int.eq_ofNat_of_zero_le hb.1
  obtain ⟨m, rfl⟩ := Int.eq_ofNat_of_zero_le hc.1
  have hn : n < 256 := by omega
  have hm : m < 256 := by omega
  rw [(bits_nat .u64 8 (by decide) wraps8 n m hn hm).1]
  constructor
  · intro h y h0 h8 hh
    obtain ⟨q, rfl⟩ := Int.eq_ofNat_of_zero_le h0
    rw [hasI_bit n q hn (by omega), hasI_bit m q hm (by omega)] at hh
    have h1 : n &&& m = 0 := by omega
    have := Nat.testBit_and n m q
    rw [h1, hh.1, hh.2, Nat.zero_testBit] at this
    simp at this
  · intro h
    have : n &&& m = 0 := by
      refine Nat.eq_of_testBit_eq fun q => ?_
      rw [Nat.testBit_and, Nat.zero_testBit]
      by_cases hq : q < 8
      · have := h (q : Int) (by omega) (by omega)
        rw [hasI_bit n q hn hq, hasI_bit m q hm hq] at this
        cases h1 : n.testBit q <;> cases h2 : m.testBit q <;> simp_all
      · rw [Nat.testBit_lt_two_pow (i := q) (x := n) (Nat.lt_of_lt_of_le hn (by show 2 ^ 8 ≤ 2 ^ q; exact Nat.pow_le_pow_right (by decide) (by omega))), Bool.false_and]
    rw [this]
    rfl
/-! A cover. -/
def coverI (e : List S68) (l : List Int) : Bool := e.all fun s => decide (s.f0 ∈ l) || decide (s.f1 ∈ l)
theorem cover_loop (a : Int) (e : List S68) (l : List Int) (he : e.length ≤ 1048576) (hl : l.length ≤ 1048576) (d : Nat) : ∀ (m : Nat), e.length - m = d → m ≤ e.length → Ev (fun k => spec_l4Has.l0 k l (m : Int) a e) (coverI (e.drop m) l) := by
  induction d with
  | zero =>
    intro m h0 h1
    refine Ev.step (fun k => by rw [spec_l4Has.l0]) (Ev.neg (by omega) ?_)
    rw [List.drop_eq_nil_of_le (by omega)]
    exact Ev.now _
  | succ d ih =>
    intro m h0 h1
    have hm : m < e.length := by omega
    have ihm := ih (m + 1) (by omega) (by omega)
    rw [← wrap_up hm (by omega)] at ihm
    refine Ev.step (fun k => by rw [spec_l4Has.l0]) (Ev.pos (by omega) (Ev.pos (by omega) ?_))
    rw [rdT_at e m hm, List.drop_eq_getElem_cons hm]
    unfold coverI at ihm ⊢
    rw [List.all_cons]
    refine Ev.bind (l1Has_ev l _ hl) ?_
    by_cases c : e[m].f0 ∈ l
    · rw [decide_eq_true c, Bool.true_or, Bool.true_and]
      exact Ev.pos rfl ihm
    · rw [decide_eq_false c, Bool.false_or]
      refine Ev.neg (by decide) (Ev.bind (l1Has_ev l _ hl) ?_)
      by_cases c2 : e[m].f1 ∈ l
      · rw [decide_eq_true c2, Bool.true_and]
        exact Ev.pos rfl ihm
      · rw [decide_eq_false c2, Bool.false_and]
        exact Ev.neg (by decide) (Ev.now _)
theorem cover_free {a : Int} {e : List S68} {l : List Int} (hg : okG a e = true) (hx : ∀ x ∈ l, 0 ≤ x ∧ x < 8) : impl_Graph_isFree.f a e (lessI (allI a) (bagI 0 l)) = some (coverI e l) := by
  have h1 := okG_all hg
  have hb := bagI_at l 0 (by omega) hx
  have hc := lessI_at (n := a) ⟨h1.1, h1.2.1⟩ hb.1
  have hv : ∀ y, 0 ≤ y → y < 8 → hasI (lessI (allI a) (bagI 0 l)) y = (decide (y < a) && !decide (y ∈ l)) := fun y h1 h2 => by rw [hc.2 y h1 h2, hb.2 y h1 h2, hasI_nil h1 h2, Bool.false_or]
  rw [isFree_at a e _ (selI (fun z => !decide (z ∈ l)) a.toNat 0) (fun s hs => by have := h1.2.2 s hs; omega) (fun y h0 h8 => ?_)]
  · congr 1
    unfold freeI coverI
    rw [Bool.eq_iff_iff, Bool.not_eq_true', List.any_eq_false, List.all_eq_true]
    refine forall_congr' fun s => forall_congr' fun hs => ?_
    have h2 := h1.2.2 s hs
    simp only [Bool.and_eq_true, decide_eq_true_eq, selI_mem, Bool.not_eq_true', decide_eq_false_iff_not, Bool.or_eq_true]
    by_cases c1 : s.f0 ∈ l
    · simp [c1]
    · by_cases c2 : s.f1 ∈ l
      · simp [c2]
      · simp only [c1, c2, not_false_eq_true, and_true, or_self, iff_false, Classical.not_not]
        omega
  · rw [hv y h0 h8, Bool.eq_iff_iff, decide_eq_true_eq, selI_mem, Bool.and_eq_true, decide_eq_true_eq]
    refine and_congr_left fun _ => ?_
    omega
/-! A clique. -/
def cliN (e : List S68) (l : List Int) : Nat → Nat → Bool
  | 0, _ => true
  | d + 1, i => if (l.take i).all (fun y => hasP e (l[i]?.getD 0) y) = true then cliN e l d (i + 1) else false
section
variable (a : Int) (e : List S68) (l : List Int) (he : e.length ≤ 1048576) (hl : l.length ≤ 1048576)
include he hl
theorem sCli_row {R : Bool} (i : Nat) (hi : i < l.length) (d : Nat) : ∀ (j : Nat), i - j = d → j ≤ i → Ev (fun k => spec_l4Has.l1 k l (wrap64 ((i : Int) + 1)) a e) R →
    Ev (fun k => spec_l4Has.l2 k l (i : Int) (j : Int) a e) (if ((l.take i).drop j).all (fun y => hasP e (l[i]?.getD 0) y) = true then R else false) := by
  induction d with
  | zero =>
    intro j h0 h1 h
    refine Ev.step (fun k => by rw [spec_l4Has.l2]) (Ev.neg (by omega) ?_)
    rw [List.drop_eq_nil_of_le (by rw [List.length_take]; omega), List.all_nil, if_pos rfl]
    exact h
  | succ d ih =>
    intro j h0 h1 h
    have hj : j < l.length := by omega
    refine Ev.step (fun k => by rw [spec_l4Has.l2]) (Ev.pos (by omega) (Ev.pos (by omega) (Ev.pos (by omega) (Ev.pos (by omega) (Ev.pos (by omega) ?_)))))
    rw [rd_at l j hj, rd_at l i hi]
    refine Ev.bind (near_ev a e l[i] l[j] he) ?_
    have hd : (l.take i).drop j = l[j] :: (l.take i).drop (j + 1) := by
      rw [List.drop_eq_getElem_cons (by rw [List.length_take]; omega), List.getElem_take]
    rw [hd, List.all_cons, List.getElem?_eq_getElem hi, Option.getD_some]
    have := ih (j + 1) (by omega) (by omega) h
    rw [List.getElem?_eq_getElem hi, Option.getD_some] at this
    cases c : hasP e l[i] l[j] with
    | true => rw [Bool.true_and, wrap_up hj (by omega)]; exact Ev.pos rfl this
    | false => rw [Bool.false_and, if_neg (by decide : ¬ false = true)]; exact Ev.neg (by decide) (Ev.now _)
theorem sCli_loop (d : Nat) : ∀ (i : Nat), l.length - i = d → i ≤ l.length → Ev (fun k => spec_l4Has.l1 k l (i : Int) a e) (cliN e l d i) := by
  induction d with
  | zero =>
    intro i h0 h1
    refine Ev.step (fun k => by rw [spec_l4Has.l1]) (Ev.neg (by omega) ?_)
    exact Ev.now _
  | succ d ih =>
    intro i h0 h1
    have hi : i < l.length := by omega
    refine Ev.step (fun k => by rw [spec_l4Has.l1]) (Ev.pos (by omega) ?_)
    have h := ih (i + 1) (by omega) (by omega)
    rw [← wrap_up hi (by omega)] at h
    have := sCli_row a e l he hl i hi i 0 (by omega) (by omega) h
    simpa only [List.drop_zero, cliN, Int.natCast_zero] using this
variable (hu : ∀ s ∈ e, s.f0 < s.f1)
include hu
theorem iCli_row {R : Bool} (i : Nat) (hi : i < l.length) (d : Nat) : ∀ (j : Nat), i - j = d → j ≤ i → Ev (fun k => impl_Graph_hasKind.l0 k l l (l.length : Int) (wrap64 ((i : Int) + 1)) a e) R →
    Ev (fun k => impl_Graph_hasKind.l1 k l l[i] l (l.length : Int) (i : Int) (l.take i) ((l.take i).length : Int) (j : Int) a e) (if ((l.take i).drop j).all (fun y => hasP e (l[i]?.getD 0) y) = true then R else false) := by
  have ht : (l.take i).length = i := by rw [List.length_take]; omega
  induction d with
  | zero =>
    intro j h0 h1 h
    refine Ev.step (fun k => by rw [impl_Graph_hasKind.l1]) (Ev.neg (by omega) ?_)
    rw [List.drop_eq_nil_of_le (by rw [List.length_take]; omega), List.all_nil, if_pos rfl]
    exact h
  | succ d ih =>
    intro j h0 h1 h
    have hj : j < l.length := by omega
    have hj2 : j < (l.take i).length := by omega
    refine Ev.step (fun k => by rw [impl_Graph_hasKind.l1]) (Ev.pos (by omega) (Ev.pos (by omega) (Ev.pos (by omega) ?_)))
    rw [rd_at (l.take i) j hj2, List.getElem_take]
    refine Ev.bind (has_ev a e l[i] l[j] he hu) ?_
    have hd : (l.take i).drop j = l[j] :: (l.take i).drop (j + 1) := by
      rw [List.drop_eq_getElem_cons hj2, List.getElem_take]
    rw [hd, List.all_cons, List.getElem?_eq_getElem hi, Option.getD_some]
    have := ih (j + 1) (by omega) (by omega) h
    rw [List.getElem?_eq_getElem hi, Option.getD_some] at this
    cases c : hasP e l[i] l[j] with
    | true => rw [Bool.true_and, wrap_up hj (by omega)]; exact Ev.pos rfl this
    | false => rw [Bool.false_and, if_neg (by decide : ¬ false = true)]; exact Ev.neg (by decide) (Ev.now _)
theorem iCli_loop (d : Nat) : ∀ (i : Nat), l.length - i = d → i ≤ l.length → Ev (fun k => impl_Graph_hasKind.l0 k l l (l.length : Int) (i : Int) a e) (cliN e l d i) := by
  induction d with
  | zero =>
    intro i h0 h1
    refine Ev.step (fun k => by rw [impl_Graph_hasKind.l0]) (Ev.neg (by omega) ?_)
    exact Ev.now _
  | succ d ih =>
    intro i h0 h1
    have hi : i < l.length := by omega
    refine Ev.step (fun k => by rw [impl_Graph_hasKind.l0]) (Ev.pos (by omega) (Ev.pos (by omega) (Ev.pos (by omega) (Ev.pos (by omega) ?_))))
    have h := ih (i + 1) (by omega) (by omega)
    rw [← wrap_up hi (by omega)] at h
    have := iCli_row a e l he hl hu i hi i 0 (by omega) (by omega) h
    rw [rd_at l i hi, Int.toNat_natCast]
    refine Ev.bindo rfl ?_
    simpa only [List.drop_zero, cliN, Int.natCast_zero] using this
end
/-- A rising list of small numbers is what its bag lists. -/
theorem ris_list (l : List Int) : ∀ (d : Nat) (p : Option Int) (y : Int), risI 0 7 p l = true → y + (d : Int) = 8 → 0 ≤ y → (∀ x ∈ l, y ≤ x) → selI (fun z => decide (z ∈ l)) d y = l := by
  induction l with
  | nil =>
    intro d p y h hd h0 hy
    exact selI_none _ d y (fun z _ _ => by simp)
  | cons x t ih =>
    intro d
    induction d with
    | zero =>
      intro p y h hd h0 hy
      have h1 := risI_all 0 7 (x :: t) p h x (List.mem_cons_self ..)
      have h2 := hy x (List.mem_cons_self ..)
      omega
    | succ d ihd =>
      intro p y h hd h0 hy
      have hx := hy x (List.mem_cons_self ..)
      have h' := h
      simp only [risI, Bool.and_eq_true, decide_eq_true_eq] at h'
      have ht : ∀ z ∈ t, x < z := by
        have h3 := h'.2.2
        have : ∀ (t : List Int) (q : Int), risI 0 7 (some q) t = true → ∀ z ∈ t, q < z := by
          intro t
          induction t with
          | nil => intro q _ z hz; simp at hz
          | cons w t ih =>
            intro q h z hz
            simp only [risI, Bool.and_eq_true, decide_eq_true_eq] at h
            rcases List.mem_cons.1 hz with rfl | hz
            · exact h.2.1
            · have := ih w h.2.2 z hz
              omega
        exact this t x h3
      by_cases c : y = x
      · subst c
        simp only [selI]
        rw [if_pos (by simp), List.singleton_append]
        congr 1
        have hcon : selI (fun z => decide (z ∈ y :: t)) d (y + 1) = selI (fun z => decide (z ∈ t)) d (y + 1) := selI_congr _ _ _ _ fun z h1 h2 => by
          rw [decide_eq_decide, List.mem_cons]
          exact ⟨fun h => h.resolve_left (by omega), .inr⟩
        rw [hcon]
        exact ih d (some y) (y + 1) h'.2.2 (by omega) (by omega) (fun z hz => by have := ht z hz; omega)
      · have hnot : ¬ y ∈ x :: t := by
          rw [List.mem_cons]
          rintro (hh | hh)
          · exact c hh
          · have := ht y hh
            omega
        simp only [selI]
        rw [if_neg (by simpa using hnot), List.nil_append]
        exact ihd p (y + 1) h (by omega) (by omega) (fun z hz => by
          rcases List.mem_cons.1 hz with rfl | hz
          · omega
          · have := ht z hz
            omega)
theorem bag_list_self {l : List Int} (h : risI 0 7 none l = true) : selI (hasI (bagI 0 l)) 8 0 = l := by
  have hx : ∀ x ∈ l, 0 ≤ x ∧ x < 8 := fun x hx => by have := risI_all 0 7 l none h x hx; omega
  have hb := (bagI_at l 0 (by omega) hx).2
  rw [selI_congr (hasI (bagI 0 l)) (fun z => decide (z ∈ l)) 8 0 (fun z h1 h2 => by rw [hb z h1 (by omega), hasI_nil h1 (by omega), Bool.false_or])]
  exact ris_list l 8 none 0 h (by decide) (by decide) (fun x hh => (hx x hh).1)
theorem risI_wide {n : Int} (hn : n ≤ 7) (l : List Int) : ∀ p, risI 0 n p l = true → risI 0 7 p l = true := by
  induction l with
  | nil => intro p _; cases p <;> rfl
  | cons x t ih =>
    intro p h
    simp only [risI, Bool.and_eq_true, decide_eq_true_eq] at h ⊢
    exact ⟨by omega, h.2.1, ih _ h.2.2⟩
/-! A dominating set. -/
theorem hasP_comm (e : List S68) (x y : Int) : hasP e x y = hasP e y x := by
  unfold hasP
  refine any_congr e _ _ fun s hs => ?_
  rw [Bool.or_comm]
def domN (e : List S68) (l : List Int) : Nat → Int → Bool
  | 0, _ => true
  | d + 1, x => if (decide (x ∈ l) || l.any fun y => hasP e y x) = true then domN e l d (x + 1) else false
section
variable (a : Int) (e : List S68) (l : List Int) (he : e.length ≤ 1048576) (hl : l.length ≤ 1048576) (h8 : a ≤ 8)
include he hl
theorem sDom_row {R : Bool} (x : Int) (d : Nat) : ∀ (m : Nat) (b : Bool), l.length - m = d → m ≤ l.length → Ev (fun k => spec_l4Has.l3 k l (wrap64 (x + 1)) a e) R →
    Ev (fun k => spec_l4Has.l4 k l x b (m : Int) a e) (if (b || (l.drop m).any fun y => hasP e y x) = true then R else false) := by
  induction d with
  | zero =>
    intro m b h0 h1 h
    refine Ev.step (fun k => by rw [spec_l4Has.l4]) (Ev.neg (by omega) ?_)
    rw [List.drop_eq_nil_of_le (by omega), List.any_nil, Bool.or_false]
    cases b with
    | true => rw [if_pos rfl]; exact Ev.pos rfl h
    | false => rw [if_neg (by decide : ¬ false = true)]; exact Ev.neg (by decide) (Ev.now _)
  | succ d ih =>
    intro m b h0 h1 h
    have hm : m < l.length := by omega
    refine Ev.step (fun k => by rw [spec_l4Has.l4]) (Ev.pos (by omega) ?_)
    rw [wrap_up hm (by omega), List.drop_eq_getElem_cons hm, List.any_cons]
    cases b with
    | true =>
      have := ih (m + 1) true (by omega) (by omega) h
      rw [Bool.true_or] at this ⊢
      exact Ev.pos rfl this
    | false =>
      refine Ev.neg (by decide) (Ev.pos (by omega) ?_)
      rw [rd_at l m hm, Bool.false_or]
      exact Ev.bind (near_ev a e l[m] x he) (ih (m + 1) _ (by omega) (by omega) h)
include h8
theorem sDom_loop (d : Nat) : ∀ (x : Int), (a - x).toNat = d → 0 ≤ x → Ev (fun k => spec_l4Has.l3 k l x a e) (domN e l d x) := by
  induction d with
  | zero =>
    intro x h0 h1
    refine Ev.step (fun k => by rw [spec_l4Has.l3]) (Ev.neg (by omega) ?_)
    exact Ev.now _
  | succ d ih =>
    intro x h0 h1
    have hw : wrap64 (x + 1) = x + 1 := wrap_nat (by omega) (by omega)
    refine Ev.step (fun k => by rw [spec_l4Has.l3]) (Ev.pos (by omega) (Ev.bind (l1Has_ev l x hl) ?_))
    have h := ih (x + 1) (by omega) (by omega)
    rw [← hw] at h
    have := sDom_row a e l he hl x l.length 0 (decide (x ∈ l)) (by omega) (Nat.zero_le _) h
    rw [hw] at this
    simpa only [List.drop_zero, domN, Int.natCast_zero] using this
end
section
variable (a : Int) (e : List S68) (l : List Int) (he : e.length ≤ 1048576) (h8 : a ≤ 8) (hg : okG a e = true) (hx : ∀ x ∈ l, 0 ≤ x ∧ x < 8)
include he h8 hg hx
theorem iDom_loop (d : Nat) : ∀ (x : Int), (a - x).toNat = d → 0 ≤ x → Ev (fun k => impl_Graph_hasKind.l2 k (bagI 0 l) a x a e) (domN e l d x) := by
  have h2 := okG_all hg
  have hu : ∀ s ∈ e, s.f0 < s.f1 := fun s hs => (h2.2.2 s hs).2.1
  have hb := bagI_at l 0 (by omega) hx
  induction d with
  | zero =>
    intro x h0 h1
    refine Ev.step (fun k => by rw [impl_Graph_hasKind.l2]) (Ev.neg (by omega) ?_)
    exact Ev.now _
  | succ d ih =>
    intro x h0 h1
    have hw : wrap64 (x + 1) = x + 1 := wrap_nat (by omega) (by omega)
    have h := ih (x + 1) (by omega) (by omega)
    refine Ev.step (fun k => by rw [impl_Graph_hasKind.l2]) (Ev.pos (by omega) (Ev.bindo (bag_has_at h1) ?_))
    rw [hb.2 x h1 (by omega), hasI_nil h1 (by omega), Bool.false_or, domN, hw]
    by_cases c : x ∈ l
    · rw [decide_eq_true c, Bool.true_or, if_pos rfl]
      exact Ev.pos rfl h
    · rw [decide_eq_false c, Bool.false_or]
      have hnx : ∀ y ∈ nbs e x a.toNat 0, 0 ≤ y ∧ y < 8 := by
        intro y hy
        have : ∀ (d : Nat) (z : Int), y ∈ nbs e x d z → z ≤ y ∧ y < z + (d : Int) := by
          intro d
          induction d with
          | zero => intro z hz; simp [nbs] at hz
          | succ d ih =>
            intro z hz
            simp only [nbs, List.mem_append] at hz
            rcases hz with hz | hz
            · split at hz
              · simp only [List.mem_singleton] at hz; omega
              · simp at hz
            · have := ih (z + 1) hz; omega
        have := this a.toNat 0 hy
        omega
      have hmem : ∀ y, y ∈ nbs e x a.toNat 0 ↔ (0 ≤ y ∧ y < a) ∧ hasP e x y = true := by
        intro y
        have : ∀ (d : Nat) (z : Int), y ∈ nbs e x d z ↔ (z ≤ y ∧ y < z + (d : Int)) ∧ hasP e x y = true := by
          intro d
          induction d with
          | zero => intro z; simp only [nbs, List.not_mem_nil, false_iff]; omega
          | succ d ih =>
            intro z
            simp only [nbs, List.mem_append, ih]
            by_cases c : hasP e x z = true
            · rw [if_pos c, List.mem_singleton]
              constructor
              · rintro (rfl | hh)
                · exact ⟨by omega, c⟩
                · exact ⟨by omega, hh.2⟩
              · rintro ⟨hh, hf⟩
                by_cases hz : y = z
                · exact .inl hz
                · exact .inr ⟨by omega, hf⟩
            · rw [if_neg c]
              constructor
              · rintro (hh | hh)
                · simp at hh
                · exact ⟨by omega, hh.2⟩
              · rintro ⟨hh, hf⟩
                by_cases hz : y = z
                · subst hz; exact absurd hf c
                · exact .inr ⟨by omega, hf⟩
        rw [this a.toNat 0]
        refine and_congr_left fun _ => ?_
        omega
      have hlen := nbs_len e x a.toNat 0
      have hb2 := bagI_at (nbs e x a.toNat 0) 0 (by omega) hnx
      refine Ev.neg (by decide) (Ev.bind (neighbors_ev a e x he h8 hu) (Ev.bind (bagOf_ev _ (by omega) hnx) ?_))
      have hz := andI_zero hb2.1 hb.1
      have hiff : Go.bits .and .u64 (bagI 0 (nbs e x a.toNat 0)) (bagI 0 l) = 0 ↔ ¬ (l.any fun y => hasP e y x) = true := by
        rw [hz, List.any_eq_true]
        constructor
        · rintro hh ⟨y, hy, hp⟩
          have hy8 := hx y hy
          refine hh y hy8.1 hy8.2 ⟨?_, ?_⟩
          · rw [hb2.2 y hy8.1 hy8.2, hasI_nil hy8.1 hy8.2, Bool.false_or, decide_eq_true_eq, hmem]
            refine ⟨?_, by rw [hasP_comm e]; exact hp⟩
            obtain ⟨s, hs, hc⟩ := (hasP_iff e y x).1 hp
            have := h2.2.2 s hs
            omega
          · rw [hb.2 y hy8.1 hy8.2, hasI_nil hy8.1 hy8.2, Bool.false_or, decide_eq_true_eq]
            exact hy
        · intro hh y h0 h8' hc
          rw [hb2.2 y h0 h8', hb.2 y h0 h8', hasI_nil h0 h8', Bool.false_or, Bool.false_or, decide_eq_true_eq, decide_eq_true_eq, hmem] at hc
          exact hh ⟨y, hc.2, by rw [hasP_comm e]; exact hc.1.2⟩
      by_cases c2 : (l.any fun y => hasP e y x) = true
      · rw [if_pos c2]
        exact Ev.neg (fun hh => hiff.1 hh c2) h
      · rw [if_neg c2]
        exact Ev.pos (hiff.2 c2) (Ev.now _)
end
end Go.Proofs.Ytpbngmkhpcgpkaa.P
