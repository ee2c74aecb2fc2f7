/- The nodes that are not in a set, as both sides list them. -/
import Derived.Test.YtpbngmkhpcgpkaaFactB
import Derived.Test.YtpbngmkhpcgpkaaPx21
namespace Go.Proofs.Ytpbngmkhpcgpkaa.P
open Go.RowKit Go.Proofs.YtpbngmkhpcgpkaaW.PrintWords Go.Proofs.YtpbngmkhpcgpkaaW.PrintLast Go.Proofs.YtpbngmkhpcgpkaaW.PrintMore
set_option linter.unusedVariables false

theorem l1Has_loop (l : List Int) (x : Int) (hl : l.length ≤ 1048576) (d : Nat) : ∀ (m : Nat), l.length - m = d → m ≤ l.length → Ev (fun k => spec_l1Has.l0 k l x (m : Int)) (decide (x ∈ l.drop m)) := by
  induction d with
  | zero =>
    intro m h0 h1
    refine Ev.step (fun k => by rw [spec_l1Has.l0]) (Ev.neg (by omega) ?_)
    rw [List.drop_eq_nil_of_le (by omega), decide_eq_false (by simp)]
    exact Ev.now _
  | succ d ih =>
    intro m h0 h1
    have hm : m < l.length := by omega
    refine Ev.step (fun k => by rw [spec_l1Has.l0]) (Ev.pos (by omega) (Ev.pos (by omega) ?_))
    rw [rd_at l m hm, List.drop_eq_getElem_cons hm, wrap_up hm (by omega)]
    by_cases c : l[m] = x
    · rw [decide_eq_true (by rw [c]; exact List.mem_cons_self ..)]
      exact Ev.pos c (Ev.now _)
    · have h := ih (m + 1) (by omega) (by omega)
      rw [show decide (x ∈ l[m] :: l.drop (m + 1)) = decide (x ∈ l.drop (m + 1)) from by
        rw [decide_eq_decide, List.mem_cons]
        exact ⟨fun h => h.resolve_left (fun h => c h.symm), .inr⟩]
      exact Ev.neg c h
theorem l1Has_ev (l : List Int) (x : Int) (hl : l.length ≤ 1048576) : Ev (fun k => spec_l1Has.f k l x) (decide (x ∈ l)) := by
  have := l1Has_loop l x hl l.length 0 (by omega) (Nat.zero_le _)
  unfold spec_l1Has.f
  simpa only [List.drop_zero, Int.natCast_zero] using this
/-- The numbers of a row of d from y on that pass. -/
def selI (f : Int → Bool) : Nat → Int → List Int
  | 0, _ => []
  | d + 1, y => (if f y = true then [y] else []) ++ selI f d (y + 1)
theorem selI_len (f : Int → Bool) (d : Nat) : ∀ y, (selI f d y).length ≤ d := by
  induction d with
  | zero => intro y; simp [selI]
  | succ d ih =>
    intro y
    have := ih (y + 1)
    simp only [selI, List.length_append]
    split <;> simp only [List.length_nil, List.length_cons] <;> omega
theorem selI_congr (f g : Int → Bool) (d : Nat) : ∀ y, (∀ z, y ≤ z → z < y + (d : Int) → f z = g z) → selI f d y = selI g d y := by
  induction d with
  | zero => intro y _; rfl
  | succ d ih =>
    intro y h
    simp only [selI]
    rw [h y (by omega) (by omega), ih (y + 1) (fun z h1 h2 => h z (by omega) (by omega))]
theorem selI_none (f : Int → Bool) (d : Nat) : ∀ y, (∀ z, y ≤ z → z < y + (d : Int) → f z = false) → selI f d y = [] := by
  induction d with
  | zero => intro y _; rfl
  | succ d ih =>
    intro y h
    simp only [selI]
    rw [h y (by omega) (by omega), ih (y + 1) (fun z h1 h2 => h z (by omega) (by omega))]
    rfl
theorem selI_add (f : Int → Bool) (d e : Nat) : ∀ y, selI f (d + e) y = selI f d y ++ selI f e (y + (d : Int)) := by
  induction d with
  | zero => intro y; simp [selI]
  | succ d ih =>
    intro y
    rw [show d + 1 + e = (d + e) + 1 by omega]
    simp only [selI]
    rw [ih (y + 1), List.append_assoc, show y + 1 + (d : Int) = y + ((d + 1 : Nat) : Int) by omega]
theorem selI_mem (f : Int → Bool) (d : Nat) : ∀ y z, z ∈ selI f d y ↔ (y ≤ z ∧ z < y + (d : Int)) ∧ f z = true := by
  induction d with
  | zero => intro y z; simp only [selI, List.not_mem_nil, false_iff]; omega
  | succ d ih =>
    intro y z
    simp only [selI, List.mem_append, ih]
    by_cases c : f y = true
    · rw [if_pos c, List.mem_singleton]
      constructor
      · rintro (rfl | h)
        · exact ⟨by omega, c⟩
        · exact ⟨by omega, h.2⟩
      · rintro ⟨h, hf⟩
        by_cases hz : z = y
        · exact .inl hz
        · exact .inr ⟨by omega, hf⟩
    · rw [if_neg c]
      constructor
      · rintro (h | h)
        · simp at h
        · exact ⟨by omega, h.2⟩
      · rintro ⟨h, hf⟩
        by_cases hz : z = y
        · subst hz; exact absurd hf c
        · exact .inr ⟨by omega, hf⟩
def allI (n : Int) : Int := IntKind.u64.wrap ((shl .u64 1 n) - 1)
def lessI (b c : Int) : Int := Go.bits .andNot .u64 b c
theorem lessI_fin : ∀ n : Fin 9, ∀ b : Fin 256, (0 ≤ lessI (allI n) b ∧ lessI (allI n) b < 256) ∧ ∀ y : Fin 8, hasI (lessI (allI n) b) y = (decide (y.val < n.val) && !hasI b y) := by decide +kernel
theorem lessI_at {n b : Int} (hn : 0 ≤ n ∧ n ≤ 8) (hb : 0 ≤ b ∧ b < 256) : (0 ≤ lessI (allI n) b ∧ lessI (allI n) b < 256) ∧ ∀ y, 0 ≤ y → y < 8 → hasI (lessI (allI n) b) y = (decide (y < n) && !hasI b y) := by
  obtain ⟨i, rfl⟩ := fin_of (n := 9) hn.1 (by omega)
  obtain ⟨j, rfl⟩ := fin_of (n := 256) hb.1 hb.2
  have h := lessI_fin i j
  refine ⟨h.1, fun y h0 h8 => ?_⟩
  obtain ⟨q, rfl⟩ := fin_of (n := 8) h0 h8
  rw [h.2 q]
  congr 1
  rw [decide_eq_decide]
  omega
theorem bag_list_loop (b : Int) (d : Nat) : ∀ (y : Int) (acc : List Int), (8 - y).toNat = d → 0 ≤ y → acc.length + d ≤ 1000 → Ev (fun k => impl_bag_list.l0 k b acc y) (acc ++ selI (hasI b) d y) := by
  induction d with
  | zero =>
    intro y acc h0 h1 h2
    refine Ev.step (fun k => by rw [impl_bag_list.l0]) (Ev.neg (by omega) ?_)
    simp only [selI, List.append_nil]
    exact Ev.now _
  | succ d ih =>
    intro y acc h0 h1 h2
    refine Ev.step (fun k => by rw [impl_bag_list.l0]) (Ev.pos (by omega) (Ev.pos (by omega) ?_))
    have hw : wrap64 (y + 1) = y + 1 := wrap_nat (by omega) (by omega)
    rw [hw, selI]
    by_cases c : hasI b y = true
    · rw [if_pos c, ← List.append_assoc]
      refine Ev.pos (by simpa only [hasI, beq_iff_eq] using c) (Ev.pos (by omega) ?_)
      exact ih (y + 1) _ (by omega) (by omega) (by rw [List.length_append, List.length_singleton]; omega)
    · rw [if_neg c, List.nil_append]
      exact Ev.neg (by simpa only [hasI, beq_iff_eq] using c) (ih (y + 1) acc (by omega) (by omega) (by omega))
theorem bag_list_ev (b : Int) : Ev (fun k => impl_bag_list.f k b) (selI (hasI b) 8 0) := by
  unfold impl_bag_list.f
  have := bag_list_loop b 8 0 [] (by omega) (by omega) (by simp)
  simpa only [List.nil_append] using this
theorem others_loop (a : Int) (e : List S68) (l : List Int) (hl : l.length ≤ 1048576) (h8 : a ≤ 8) (d : Nat) : ∀ (y : Int) (acc : List Int), (a - y).toNat = d → 0 ≤ y → acc.length + d ≤ 1000 →
    Ev (fun k => spec_l4Others.l0 k l acc y a e) (acc ++ selI (fun z => !decide (z ∈ l)) d y) := by
  induction d with
  | zero =>
    intro y acc h0 h1 h2
    refine Ev.step (fun k => by rw [spec_l4Others.l0]) (Ev.neg (by omega) ?_)
    simp only [selI, List.append_nil]
    exact Ev.now _
  | succ d ih =>
    intro y acc h0 h1 h2
    refine Ev.step (fun k => by rw [spec_l4Others.l0]) (Ev.pos (by omega) (Ev.bind (l1Has_ev l y hl) ?_))
    have hw : wrap64 (y + 1) = y + 1 := wrap_nat (by omega) (by omega)
    rw [hw, selI]
    by_cases c : y ∈ l
    · rw [decide_eq_true c, if_neg (by decide), List.nil_append]
      exact Ev.pos rfl (ih (y + 1) acc (by omega) (by omega) (by omega))
    · rw [decide_eq_false c, if_pos (by decide), ← List.append_assoc]
      refine Ev.neg (by decide) (Ev.pos (by omega) ?_)
      exact ih (y + 1) _ (by omega) (by omega) (by rw [List.length_append, List.length_singleton]; omega)
theorem others_ev (a : Int) (e : List S68) (l : List Int) (hl : l.length ≤ 1048576) (h8 : a ≤ 8) : Ev (fun k => spec_l4Others.f k a e l) (selI (fun z => !decide (z ∈ l)) a.toNat 0) := by
  unfold spec_l4Others.f
  have := others_loop a e l hl h8 a.toNat 0 [] (by omega) (by omega) (by simp; omega)
  simpa only [List.nil_append] using this
/-- What is not in a set's bag, of all nodes. -/
theorem less_list {a : Int} {l : List Int} (h0 : 0 ≤ a) (h8 : a ≤ 8) (hx : ∀ x ∈ l, 0 ≤ x ∧ x < 8) : selI (hasI (lessI (allI a) (bagI 0 l))) 8 0 = selI (fun z => !decide (z ∈ l)) a.toNat 0 := by
  have hb := bagI_at l 0 (by omega) hx
  have hc := lessI_at (n := a) ⟨h0, h8⟩ hb.1
  have hv : ∀ y, 0 ≤ y → y < 8 → hasI (lessI (allI a) (bagI 0 l)) y = (decide (y < a) && !decide (y ∈ l)) := fun y h1 h2 => by rw [hc.2 y h1 h2, hb.2 y h1 h2, hasI_nil h1 h2, Bool.false_or]
  rw [show 8 = a.toNat + (8 - a.toNat) by omega, selI_add, selI_none _ (8 - a.toNat), List.append_nil]
  · refine selI_congr _ _ _ _ fun z h1 h2 => ?_
    rw [hv z (by omega) (by omega), decide_eq_true (by omega : z < a), Bool.true_and]
  · intro z h1 h2
    rw [hv z (by omega) (by omega), decide_eq_false (by omega : ¬ z < a), Bool.false_and]
def othR (a : Int) (e : List S68) (l : List Int) : List Int × Bool := if okG a e = true ∧ risI 0 (wrap64 (a - 1)) none l = true then (selI (fun z => !decide (z ∈ l)) a.toNat 0, true) else ([], false)
theorem othR_len (a : Int) (e : List S68) (l : List Int) : (othR a e l).1.length ≤ 1048576 := by
  unfold othR
  split
  · rename_i h
    have := okG_all h.1
    have := selI_len (fun z => !decide (z ∈ l)) a.toNat 0
    show (selI (fun z => !decide (z ∈ l)) a.toNat 0).length ≤ _
    omega
  · exact Nat.zero_le _
theorem spec_Oth_ev (a : Int) (e : List S68) (l : List Int) (he : e.length ≤ 1048576) (hl : l.length ≤ 1048576) : Ev (fun k => spec_OtherNodes.f k a e l) (othR a e l) := by
  unfold spec_OtherNodes.f othR
  refine Ev.bind (l2Good_ev a e he) ?_
  by_cases h : okG a e = true
  · refine Ev.pos h (Ev.bind (l2Set_ev a e l hl) ?_)
    by_cases c : risI 0 (wrap64 (a - 1)) none l = true
    · rw [if_pos ⟨h, c⟩]
      exact Ev.pos c (Ev.bind (others_ev a e l hl (okG_all h).2.1) (Ev.now _))
    · rw [if_neg (fun hh => c hh.2)]
      exact Ev.neg c (Ev.now _)
  · rw [if_neg (fun hh => h hh.1)]
    exact Ev.neg h (Ev.now _)
theorem set_small {a : Int} {e : List S68} {l : List Int} (h : okG a e = true) (c : risI 0 (wrap64 (a - 1)) none l = true) : ∀ x ∈ l, 0 ≤ x ∧ x < 8 := fun x hx => by
  have h1 := okG_all h
  have hw : wrap64 (a - 1) = a - 1 := wrap_nat (by omega) (by omega)
  have := risI_all _ _ l none c x hx
  omega
theorem impl_Oth_ev (a : Int) (e : List S68) (l : List Int) (he : e.length ≤ 1048576) (hl : l.length ≤ 1048576) : Ev (fun k => impl_OtherNodes.f k a e l) (othR a e l) := by
  unfold impl_OtherNodes.f othR
  refine Ev.bind (impl_IsGraph_ev a e he) ?_
  by_cases h : okG a e = true
  · have h1 := okG_all h
    refine Ev.pos h (Ev.bind (rising_ev l a hl) (Ev.step (fun k => by rw [impl_OtherNodes.j0]) ?_))
    by_cases c : risI 0 (wrap64 (a - 1)) none l = true
    · rw [if_pos ⟨h, c⟩]
      refine Ev.neg (by rw [c]; decide) (Ev.bindo (a := allI a) ?_ (Ev.bind (bagOf_ev l hl (set_small h c)) (Ev.bind (bag_list_ev _) ?_)))
      · unfold impl_Graph_all.f
        rw [if_pos h1.1]
        rfl
      · show Ev (fun _ => some (selI (hasI (lessI (allI a) (bagI 0 l))) 8 0, true)) _
        rw [less_list h1.1 h1.2.1 (set_small h c)]
        exact Ev.now _
    · rw [if_neg (fun hh => c hh.2)]
      exact Ev.pos (by simp [c]) (Ev.now _)
  · rw [if_neg (fun hh => h hh.1)]
    exact Ev.neg h (Ev.step (fun k => by rw [impl_OtherNodes.j0]) (Ev.pos rfl (Ev.now _)))
end Go.Proofs.Ytpbngmkhpcgpkaa.P
