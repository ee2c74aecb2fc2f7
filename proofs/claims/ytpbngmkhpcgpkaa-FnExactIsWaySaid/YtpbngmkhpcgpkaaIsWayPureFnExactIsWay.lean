/- Order of states, and of pairs; where a halving search ends in what is ascending. Steps of a space: the halving search tells the same as the search from the front. The law FnExactIsWay answers true for all arguments. -/
import Derived.Test.YtpbngmkhpcgpkaaIsWayFactS
import Derived.Test.YtpbngmkhpcgpkaaIsWayExtQ
import Derived.Test.YtpbngmkhpcgpkaaIsWayPx39
import Derived.Test.YtpbngmkhpcgpkaaIsWayPx40
import Derived.Test.YtpbngmkhpcgpkaaIsWayPx41
import Derived.Test.YtpbngmkhpcgpkaaIsWayPx30
import Derived.Test.YtpbngmkhpcgpkaaIsWayPx42
section
namespace Go.Proofs.Ytpbngmkhpcgpkaa.P
open Go.RowKit Go.Proofs.YtpbngmkhpcgpkaaW.PrintWords Go.Proofs.YtpbngmkhpcgpkaaW.PrintLast Go.Proofs.YtpbngmkhpcgpkaaW.PrintMore
set_option linter.unusedVariables false

theorem bsGo_at (c : Nat → Int) (n p : Nat) (h1 : ∀ q, q < p → c q < 0) (h2 : ∀ q, p ≤ q → q < n → ¬ c q < 0) (k : Nat) : ∀ (i j : Nat), i ≤ p → p ≤ j → j ≤ n → j - i < k → bsGo c k i j = p := by
  induction k with
  | zero => intro i j _ _ _ h; omega
  | succ k ih =>
    intro i j hi hj hn hk
    rw [bsGo]
    by_cases h : i < j
    · rw [if_pos h]
      by_cases hc : c ((i + j) / 2) < 0
      · rw [if_pos hc]
        have : (i + j) / 2 < p := by
          apply Nat.lt_of_not_le
          intro hp
          exact h2 _ hp (by omega) hc
        exact ih _ _ (by omega) hj hn (by omega)
      · rw [if_neg hc]
        have : p ≤ (i + j) / 2 := by
          apply Nat.le_of_not_lt
          intro hp
          exact hc (h1 _ hp)
        exact ih _ _ hi this (by omega) (by omega)
    · rw [if_neg h]
      omega
/-! Pairs. -/
theorem befP_trans {x y z : S68} (h1 : befP x y = true) (h2 : befP y z = true) : befP x z = true := by
  unfold befP at *
  simp only [Bool.or_eq_true, Bool.and_eq_true, decide_eq_true_eq] at *
  omega
theorem befP_irrefl (x : S68) : ¬ befP x x = true := by
  unfold befP
  simp only [Bool.or_eq_true, Bool.and_eq_true, decide_eq_true_eq]
  omega
theorem cmpP_zero (a b : S68) : cmpP a b = 0 ↔ (a.f0 = b.f0 ∧ a.f1 = b.f1) := by
  unfold cmpP cmpI
  by_cases h : a.f0 < b.f0
  · simp [h]; omega
  · by_cases h2 : b.f0 < a.f0
    · simp [h, h2]; omega
    · have h3 : a.f0 = b.f0 := by omega
      by_cases h4 : a.f1 < b.f1
      · simp [h3, h4]; omega
      · by_cases h5 : b.f1 < a.f1
        · simp [h3, h4, h5]; omega
        · simp [h3, h4, h5]; omega
theorem goodP_prev (n : Int) (l : List S68) : ∀ p, goodP n (some p) l = true → ∀ s ∈ l, befP p s = true := by
  induction l with
  | nil => intro p _ s hs; simp at hs
  | cons x t ih =>
    intro p h s hs
    simp only [goodP, Bool.and_eq_true] at h
    rcases List.mem_cons.1 hs with rfl | hs
    · exact h.2.1
    · exact befP_trans h.2.1 (ih x h.2.2 s hs)
theorem goodP_pair (n : Int) (l : List S68) : ∀ p, goodP n p l = true → ∀ (i j : Nat) (hi : i < l.length) (hj : j < l.length), i < j → befP l[i] l[j] = true := by
  induction l with
  | nil => intro p _ i j hi; simp at hi
  | cons x t ih =>
    intro p h i j hi hj hij
    simp only [goodP, Bool.and_eq_true] at h
    cases j with
    | zero => omega
    | succ j =>
      cases i with
      | zero => exact goodP_prev n t x h.2.2 _ (List.getElem_mem _)
      | succ i => exact ih (some x) h.2.2 i j (by simpa using hi) (by simpa using hj) (by omega)
theorem search_prs (n : Int) (l : List S68) (h : goodP n none l = true) (q : Nat) (hq : q < l.length) : bsGo (fun i => cmpP (rd_T68 l i) l[q]) (l.length + 1) 0 l.length = q := by
  refine bsGo_at _ l.length q (fun i hi => ?_) (fun i hi hn => ?_) _ _ _ (Nat.zero_le _) (by omega) (Nat.le_refl _) (by omega)
  · rw [cmpP_bef, rdT_at l i (by omega)]
    exact goodP_pair n l none h i q (by omega) hq hi
  · rw [cmpP_bef, rdT_at l i hn]
    by_cases c : i = q
    · subst c
      exact befP_irrefl _
    · exact fun hh => befP_irrefl _ (befP_trans hh (goodP_pair n l none h q i hq hn (by omega)))
end Go.Proofs.Ytpbngmkhpcgpkaa.P
end
section
namespace Go.Proofs.Ytpbngmkhpcgpkaa.P
open Go.RowKit Go.Proofs.YtpbngmkhpcgpkaaW.PrintWords Go.Proofs.YtpbngmkhpcgpkaaW.PrintLast Go.Proofs.YtpbngmkhpcgpkaaW.PrintMore
set_option linter.unusedVariables false

/-- A step leads between two places. -/
def stepB (e : List S68) (a b : Int) : Bool := e.any fun s => s.f0 == mn a b && s.f1 == mx a b
theorem least_at (a b : Int) : spec_l1Least.f a b = some (mn a b) := by
  unfold spec_l1Least.f mn
  by_cases h : a < b
  · rw [if_pos h, if_neg (by omega)]
  · rw [if_neg h]
    by_cases h2 : b < a
    · rw [if_pos h2]
    · rw [if_neg h2, show b = a by omega]
theorem most_atT (a b : Int) : spec_l1Most.f a b = some (mx a b) := by
  unfold spec_l1Most.f mx
  by_cases h : a > b
  · rw [if_pos h, if_neg (by omega)]
  · rw [if_neg h]
    by_cases h2 : a < b
    · rw [if_pos h2]
    · rw [if_neg h2, show a = b by omega]
theorem l2Step_loop (l : List (List Int)) (e : List S68) (he : e.length ≤ 1048576) (a b : Int) (d : Nat) : ∀ (m : Nat), e.length - m = d → m ≤ e.length →
    Ev (fun k => spec_l2Step.l0 k a b (m : Int) l e) ((e.drop m).any fun s => s.f0 == mn a b && s.f1 == mx a b) := by
  induction d with
  | zero =>
    intro m h0 h1
    refine Ev.step (fun k => by rw [spec_l2Step.l0]) (Ev.neg (by omega) ?_)
    rw [List.drop_eq_nil_of_le (by omega)]
    exact Ev.now _
  | succ d ih =>
    intro m h0 h1
    have hm : m < e.length := by omega
    refine Ev.step (fun k => by rw [spec_l2Step.l0]) (Ev.pos (by omega) (Ev.pos (by omega) (Ev.bindo (least_at _ _) (Ev.bindo (most_atT _ _) ?_))))
    rw [rdT_at e m hm, List.drop_eq_getElem_cons hm, List.any_cons, wrap_up hm (by omega)]
    cases (e[m].f0 == mn a b && e[m].f1 == mx a b) with
    | true => rw [Bool.true_or]; exact Ev.pos rfl (Ev.now _)
    | false => rw [Bool.false_or]; exact Ev.neg (by decide) (ih (m + 1) (by omega) (by omega))
theorem l2Step_ev (l : List (List Int)) (e : List S68) (he : e.length ≤ 1048576) (a b : Int) : Ev (fun k => spec_l2Step.f k l e a b) (stepB e a b) :=
  l2Step_loop l e he a b e.length 0 (by omega) (Nat.zero_le _)
theorem isStepB_at (n : Int) (e : List S68) (h : goodP n none e = true) (a b : Int) : isStepB e ⟨mn a b, mx a b⟩ = stepB e a b := by
  rw [Bool.eq_iff_iff]
  unfold stepB isStepB
  rw [List.any_eq_true]
  simp only [Bool.and_eq_true, decide_eq_true_eq, beq_iff_eq]
  constructor
  · rintro ⟨h1, h2⟩
    rw [cmpP_zero, rdT_at e _ h1] at h2
    exact ⟨_, List.getElem_mem h1, h2.1, h2.2⟩
  · rintro ⟨s, hs, h1, h2⟩
    obtain ⟨q, hq, rfl⟩ := List.getElem_of_mem hs
    have e1 : (⟨mn a b, mx a b⟩ : S68) = e[q] := by rw [← h1, ← h2]
    have hp : stepR e ⟨mn a b, mx a b⟩ = q := by
      rw [e1]
      exact search_prs n e h q hq
    rw [hp]
    refine ⟨hq, ?_⟩
    rw [cmpP_zero, rdT_at e q hq]
    exact ⟨h1, h2⟩
theorem isStep_at (l : List (List Int)) (e : List S68) (n : Int) (he : e.length ≤ 1048576) (h : goodP n none e = true) (a b : Int) : impl_Space_isStep.f l e a b = some (stepB e a b) := by
  unfold impl_Space_isStep.f
  rw [if_pos (by omega), isStepB_at n e h]
end Go.Proofs.Ytpbngmkhpcgpkaa.P
end
section
namespace Go.Proofs.Ytpbngmkhpcgpkaa.P
open Go.RowKit Go.Proofs.YtpbngmkhpcgpkaaW.PrintWords Go.Proofs.YtpbngmkhpcgpkaaW.PrintLast Go.Proofs.YtpbngmkhpcgpkaaW.PrintMore
set_option linter.unusedVariables false

def inW (l : List (List Int)) (x : Int) : Bool := decide (0 ≤ x) && decide (x ≤ (l.length : Int) - 1)
theorem isPlace_atW (l : List (List Int)) (e : List S68) (h : modS l e) (x : Int) : impl_Space_isPlace.f l e x = some (inW l x) := by
  have := h.1
  unfold impl_Space_isPlace.f
  rw [wrap_nat (m := (l.length : Int) - 1) (by omega) (by omega), between_at, Option.bind_some]
  rfl
/-- Places, with a step from each to the next one. -/
def wayI (l : List (List Int)) (e : List S68) : Option Int → List Int → Bool
  | _, [] => true
  | p, x :: t => inW l x && ((match p with | none => true | some q => stepB e q x) && wayI l e (some x) t)
def prevW (v : List Int) : Nat → Option Int
  | 0 => none
  | m + 1 => v[m]?
theorem wayI_step (l : List (List Int)) (e : List S68) (v : List Int) (m : Nat) (hm : m < v.length) : wayI l e (prevW v m) (v.drop m) = (inW l v[m] && ((match prevW v m with | none => true | some q => stepB e q v[m]) && wayI l e (prevW v (m + 1)) (v.drop (m + 1)))) := by
  rw [List.drop_eq_getElem_cons hm, show prevW v (m + 1) = some v[m] from List.getElem?_eq_getElem hm]
  cases prevW v m <;> rfl
def endW (v : List Int) (b : Bool) : Bool × Bool := if b = true then (decide ((v.length : Int) > 0), true) else (false, true)
section
variable (l : List (List Int)) (e : List S68) (h : modS l e) (v : List Int) (hv : v.length ≤ 1048576)
include h hv
theorem sWay_loop (d : Nat) : ∀ (m : Nat), v.length - m = d → m ≤ v.length → Ev (fun k => spec_IsWay.l0 k v (m : Int) l e) (endW v (wayI l e (prevW v m) (v.drop m))) := by
  have hl := h.1
  have hw0 : wrap64 ((l.length : Int) - 1) = (l.length : Int) - 1 := wrap_nat (by omega) (by omega)
  induction d with
  | zero =>
    intro m h0 h1
    refine Ev.step (fun k => by rw [spec_IsWay.l0]) (Ev.neg (by omega) ?_)
    rw [List.drop_eq_nil_of_le (by omega), show wayI l e (prevW v m) [] = true from by cases prevW v m <;> rfl]
    exact Ev.now _
  | succ d ih =>
    intro m h0 h1
    have hm : m < v.length := by omega
    refine Ev.step (fun k => by rw [spec_IsWay.l0]) (Ev.pos (by omega) (Ev.pos (by omega) ?_))
    rw [wayI_step l e v m hm, rd_at v m hm, hw0]
    have ihm := ih (m + 1) (by omega) (by omega)
    rw [← wrap_up hm (by omega)] at ihm
    generalize wayI l e (prevW v (m + 1)) (v.drop (m + 1)) = R at ihm ⊢
    refine Ev.bindo (a := inW l v[m]) (in_at _ _ _) ?_
    cases inW l v[m] with
    | false => rw [Bool.false_and]; exact Ev.neg (by decide) (Ev.now _)
    | true =>
      rw [Bool.true_and]
      refine Ev.pos rfl ?_
      cases m with
      | zero =>
        refine Ev.neg (by omega) ?_
        simp only [prevW, Bool.true_and]
        exact ihm
      | succ q =>
        have hq : q < v.length := by omega
        have hw : wrap64 (((q + 1 : Nat) : Int) - 1) = (q : Int) := by unfold wrap64; omega
        refine Ev.pos (by omega) ?_
        rw [hw]
        refine Ev.pos (by omega) (Ev.pos (by omega) ?_)
        rw [rd_at v q hq]
        simp only [prevW, List.getElem?_eq_getElem hq]
        refine Ev.bind (l2Step_ev l e h.2.2 _ _) ?_
        cases stepB e v[q] v[q + 1] with
        | true => rw [Bool.true_and]; exact Ev.pos rfl ihm
        | false => rw [Bool.false_and]; exact Ev.neg (by decide) (Ev.now _)
theorem iWay_loop (hg : goodP (l.length : Int) none e = true) (d : Nat) : ∀ (m : Nat), v.length - m = d → m ≤ v.length → Ev (fun k => impl_IsWay.l0 k v v (v.length : Int) (m : Int) l e) (endW v (wayI l e (prevW v m) (v.drop m))) := by
  have hl := h.1
  induction d with
  | zero =>
    intro m h0 h1
    refine Ev.step (fun k => by rw [impl_IsWay.l0]) (Ev.neg (by omega) ?_)
    rw [List.drop_eq_nil_of_le (by omega), show wayI l e (prevW v m) [] = true from by cases prevW v m <;> rfl]
    exact Ev.now _
  | succ d ih =>
    intro m h0 h1
    have hm : m < v.length := by omega
    refine Ev.step (fun k => by rw [impl_IsWay.l0]) (Ev.pos (by omega) (Ev.pos (by omega) (Ev.pos (by omega) ?_)))
    rw [wayI_step l e v m hm, rd_at v m hm]
    have ihm := ih (m + 1) (by omega) (by omega)
    rw [← wrap_up hm (by omega)] at ihm
    generalize wayI l e (prevW v (m + 1)) (v.drop (m + 1)) = R at ihm ⊢
    refine Ev.bindo (isPlace_atW l e h v[m]) ?_
    cases inW l v[m] with
    | false => rw [Bool.false_and]; exact Ev.neg (by decide) (Ev.now _)
    | true =>
      rw [Bool.true_and]
      refine Ev.pos rfl ?_
      cases m with
      | zero =>
        refine Ev.neg (by omega) ?_
        simp only [prevW, Bool.true_and]
        exact ihm
      | succ q =>
        have hq : q < v.length := by omega
        have hw : wrap64 (((q + 1 : Nat) : Int) - 1) = (q : Int) := by unfold wrap64; omega
        refine Ev.pos (by omega) ?_
        rw [hw]
        refine Ev.pos (by omega) (Ev.pos (by omega) ?_)
        rw [rd_at v q hq]
        simp only [prevW, List.getElem?_eq_getElem hq]
        refine Ev.bindo (isStep_at l e (l.length : Int) h.2.2 hg _ _) ?_
        cases stepB e v[q] v[q + 1] with
        | true => rw [Bool.true_and]; exact Ev.pos rfl ihm
        | false => rw [Bool.false_and]; exact Ev.neg (by decide) (Ev.now _)
end
def isWayR (l : List (List Int)) (e : List S68) (v : List Int) : Bool × Bool := if okS l e = true then endW v (wayI l e none v) else (false, false)
theorem spec_IsWay_ev (l : List (List Int)) (e : List S68) (h : modS l e) (v : List Int) (hv : v.length ≤ 1048576) : Ev (fun k => spec_IsWay.f k l e v) (isWayR l e v) := by
  unfold spec_IsWay.f isWayR
  refine Ev.bind (l2Space_ev l e h) ?_
  by_cases c : okS l e = true
  · rw [if_pos c]
    exact Ev.pos c (sWay_loop l e h v hv v.length 0 (by omega) (Nat.zero_le _))
  · rw [if_neg c]
    exact Ev.neg c (Ev.now _)
theorem impl_IsWay_ev (l : List (List Int)) (e : List S68) (h : modS l e) (v : List Int) (hv : v.length ≤ 1048576) : Ev (fun k => impl_IsWay.f k l e v) (isWayR l e v) := by
  unfold impl_IsWay.f isWayR
  refine Ev.bind (impl_IsSpace_ev l e h) ?_
  by_cases c : okS l e = true
  · have hg : goodP (l.length : Int) none e = true := by
      simp only [okS, Bool.and_eq_true] at c
      exact c.2.2
    rw [if_pos c]
    exact Ev.pos c (iWay_loop l e h v hv hg v.length 0 (by omega) (Nat.zero_le _))
  · rw [if_neg c]
    exact Ev.neg c (Ev.now _)
theorem Pure_FnExactIsWay (l : List (List Int)) (e : List S68) (v : List Int) (hl : FitLL l) (he : FitP e) (hv0 : FitL v) : ∃ k, laws_FnExactIsWay.f k l e v = some true := by
  refine Ev.rounds (g := fun k => laws_FnExactIsWay.f k l e v) ?_
  unfold laws_FnExactIsWay.f
  by_cases h0 : (v.length : Int) > 1048576
  · exact Ev.pos h0 (Ev.now _)
  refine Ev.neg h0 ?_
  have hv : v.length ≤ 1048576 := by omega
  obtain ⟨t, h1, h2⟩ := sz_space l e hl he.1
  refine Ev.bind h1 ?_
  by_cases h : t < 0
  · exact Ev.pos h (Ev.now _)
  · refine Ev.neg h ?_
    have hn : modS l e := h2.resolve_left h
    refine Ev.bind (toSpace_ev l e hn) (Ev.bind (toIntS_ev v hv) (Ev.bind (spec_IsWay_ev l e hn v hv) (Ev.bind (toSpace_ev l e hn) (Ev.bind (toIntS_ev v hv) (Ev.bind (impl_IsWay_ev l e hn v hv) ?_)))))
    refine Ev.neg (by simp) (Ev.step (fun k => by rw [laws_FnExactIsWay.j0]) (Ev.neg (by simp) ?_))
    exact Ev.bind (toSpace_ev l e hn) (Ev.bind (eqSpace_ev l e hn) (Ev.pos rfl (Ev.bind (toIntS_ev v hv) (Ev.bind (eqIntS_ev v hv) (Ev.pos rfl (Ev.now _))))))
end Go.Proofs.Ytpbngmkhpcgpkaa.P
end
