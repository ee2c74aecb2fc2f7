/- Order of states, and of pairs; where a halving search ends in what is ascending. -/
import Derived.Test.YtpbngmkhpcgpkaaFactS
namespace Go.Proofs.Ytpbngmkhpcgpkaa.P
open Go.RowKit Go.Proofs.YtpbngmkhpcgpkaaW.PrintWords Go.Proofs.YtpbngmkhpcgpkaaW.PrintLast Go.Proofs.YtpbngmkhpcgpkaaW.PrintMore
set_option linter.unusedVariables false

theorem bsGo_at (c : Nat → Int) (n p : Nat) (h1 : ∀ q, q < p → c q < 0) (h2 : ∀ q, p ≤ q → q < n → ¬ c q < 0) (k : Nat) : ∀ (i j : Nat), i ≤ p → p ≤ j → j ≤ n → j - i < k → bsGo c k i j = p := by
  induction k with
  | zero => intro i j _ _ _ h; omega
  | succ k ih =>
    intro i j hi hj hn hk
    rw [bsGo]
    by_cases h : i < j
    · rw [if_pos h]
      by_cases hc : c ((i + j) / 2) < 0
      · rw [if_pos hc]
        have : (i + j) / 2 < p := by
          apply Nat.lt_of_not_le
          intro hp
          exact h2 _ hp (by omega) hc
        exact ih _ _ (by omega) hj hn (by omega)
      · rw [if_neg hc]
        have : p ≤ (i + j) / 2 := by
          apply Nat.le_of_not_lt
          intro hp
          exact hc (h1 _ hp)
        exact ih _ _ hi this (by omega) (by omega)
    · rw [if_neg h]
      omega
theorem befL_trans (x : List Int) : ∀ y z, befL x y = true → befL y z = true → befL x z = true := by
  induction x with
  | nil =>
    intro y z h1 h2
    cases y with
    | nil => simp [befL] at h1
    | cons b y => cases z with
      | nil => simp [befL] at h2
      | cons c z => rfl
  | cons a x ih =>
    intro y z h1 h2
    cases y with
    | nil => simp [befL] at h1
    | cons b y => cases z with
      | nil => simp [befL] at h2
      | cons c z =>
        simp only [befL] at h1 h2 ⊢
        by_cases hab : a = b
        · by_cases hbc : b = c
          · rw [if_pos hab] at h1
            rw [if_pos hbc] at h2
            rw [if_pos (hab.trans hbc)]
            exact ih y z h1 h2
          · rw [if_neg hbc, decide_eq_true_eq] at h2
            rw [if_neg (by omega), decide_eq_true_eq]
            omega
        · rw [if_neg hab, decide_eq_true_eq] at h1
          by_cases hbc : b = c
          · rw [if_neg (by omega), decide_eq_true_eq]
            omega
          · rw [if_neg hbc, decide_eq_true_eq] at h2
            rw [if_neg (by omega), decide_eq_true_eq]
            omega
theorem befL_irrefl (x : List Int) : befL x x = false := by
  induction x with
  | nil => rfl
  | cons a x ih => rw [befL, if_pos rfl]; exact ih
theorem befL_asymm {x y : List Int} (h : befL x y = true) : befL y x = false := by
  cases h2 : befL y x with
  | false => rfl
  | true =>
    have := befL_trans x y x h h2
    rw [befL_irrefl] at this
    exact absurd this (by decide)
theorem cmpL_neg (x y : List Int) : cmpL x y < 0 ↔ befL x y = true := by
  have := cmpL_bef x y
  cases h : befL x y with
  | true => rw [h] at this; simp only [Bool.true_eq_false, iff_false, ge_iff_le] at this; simp only [iff_true]; omega
  | false => rw [h] at this; simp only [iff_true, ge_iff_le] at this; simp only [Bool.false_eq_true, iff_false]; omega
theorem cmpL_zero (x : List Int) : ∀ y, cmpL x y = 0 ↔ x = y := by
  induction x with
  | nil => intro y; cases y <;> simp [cmpL]
  | cons a x ih =>
    intro y
    cases y with
    | nil => simp [cmpL]
    | cons b y =>
      simp only [cmpL]
      unfold cmpI
      by_cases h : a < b
      · rw [if_pos h, if_neg (by decide)]
        simp; omega
      · rw [if_neg h]
        by_cases h2 : a > b
        · rw [if_pos h2, if_neg (by decide)]
          simp; omega
        · rw [if_neg h2, if_pos rfl, ih]
          have : a = b := by omega
          simp [this]
theorem goodS_prev (l : List (List Int)) : ∀ p, goodS (some p) l = true → ∀ s ∈ l, befL p s = true := by
  induction l with
  | nil => intro p _ s hs; simp at hs
  | cons x t ih =>
    intro p h s hs
    simp only [goodS, Bool.and_eq_true] at h
    rcases List.mem_cons.1 hs with rfl | hs
    · exact h.2.1
    · exact befL_trans _ _ _ h.2.1 (ih x h.2.2 s hs)
theorem goodS_pair (l : List (List Int)) : ∀ p, goodS p l = true → ∀ (i j : Nat) (hi : i < l.length) (hj : j < l.length), i < j → befL l[i] l[j] = true := by
  induction l with
  | nil => intro p _ i j hi; simp at hi
  | cons x t ih =>
    intro p h i j hi hj hij
    simp only [goodS, Bool.and_eq_true] at h
    cases j with
    | zero => omega
    | succ j =>
      cases i with
      | zero => exact goodS_prev t x h.2.2 _ (List.getElem_mem _)
      | succ i => exact ih (some x) h.2.2 i j (by simpa using hi) (by simpa using hj) (by omega)
/-- The search for a state that is there. -/
theorem search_lists (l : List (List Int)) (h : goodS none l = true) (q : Nat) (hq : q < l.length) : bsGo (fun i => cmpL (l.getD i []) l[q]) (l.length + 1) 0 l.length = q := by
  refine bsGo_at _ l.length q (fun i hi => ?_) (fun i hi hn => ?_) _ _ _ (Nat.zero_le _) (by omega) (Nat.le_refl _) (by omega)
  · rw [cmpL_neg, List.getD_eq_getElem?_getD, List.getElem?_eq_getElem (by omega), Option.getD_some]
    exact goodS_pair l none h i q (by omega) hq hi
  · rw [cmpL_neg, List.getD_eq_getElem?_getD, List.getElem?_eq_getElem hn, Option.getD_some]
    by_cases c : i = q
    · subst c
      rw [befL_irrefl]
      decide
    · rw [befL_asymm (goodS_pair l none h q i hq hn (by omega))]
      decide
/-! Pairs. -/
theorem befP_trans {x y z : S68} (h1 : befP x y = true) (h2 : befP y z = true) : befP x z = true := by
  unfold befP at *
  simp only [Bool.or_eq_true, Bool.and_eq_true, decide_eq_true_eq] at *
  omega
theorem befP_irrefl (x : S68) : ¬ befP x x = true := by
  unfold befP
  simp only [Bool.or_eq_true, Bool.and_eq_true, decide_eq_true_eq]
  omega
theorem cmpP_zero (a b : S68) : cmpP a b = 0 ↔ (a.f0 = b.f0 ∧ a.f1 = b.f1) := by
  unfold cmpP cmpI
  by_cases h : a.f0 < b.f0
  · simp [h]; omega
  · by_cases h2 : b.f0 < a.f0
    · simp [h, h2]; omega
    · have h3 : a.f0 = b.f0 := by omega
      by_cases h4 : a.f1 < b.f1
      · simp [h3, h4]; omega
      · by_cases h5 : b.f1 < a.f1
        · simp [h3, h4, h5]; omega
        · simp [h3, h4, h5]; omega
theorem goodP_prev (n : Int) (l : List S68) : ∀ p, goodP n (some p) l = true → ∀ s ∈ l, befP p s = true := by
  induction l with
  | nil => intro p _ s hs; simp at hs
  | cons x t ih =>
    intro p h s hs
    simp only [goodP, Bool.and_eq_true] at h
    rcases List.mem_cons.1 hs with rfl | hs
    · exact h.2.1
    · exact befP_trans h.2.1 (ih x h.2.2 s hs)
theorem goodP_pair (n : Int) (l : List S68) : ∀ p, goodP n p l = true → ∀ (i j : Nat) (hi : i < l.length) (hj : j < l.length), i < j → befP l[i] l[j] = true := by
  induction l with
  | nil => intro p _ i j hi; simp at hi
  | cons x t ih =>
    intro p h i j hi hj hij
    simp only [goodP, Bool.and_eq_true] at h
    cases j with
    | zero => omega
    | succ j =>
      cases i with
      | zero => exact goodP_prev n t x h.2.2 _ (List.getElem_mem _)
      | succ i => exact ih (some x) h.2.2 i j (by simpa using hi) (by simpa using hj) (by omega)
theorem search_prs (n : Int) (l : List S68) (h : goodP n none l = true) (q : Nat) (hq : q < l.length) : bsGo (fun i => cmpP (rd_T68 l i) l[q]) (l.length + 1) 0 l.length = q := by
  refine bsGo_at _ l.length q (fun i hi => ?_) (fun i hi hn => ?_) _ _ _ (Nat.zero_le _) (by omega) (Nat.le_refl _) (by omega)
  · rw [cmpP_bef, rdT_at l i (by omega)]
    exact goodP_pair n l none h i q (by omega) hq hi
  · rw [cmpP_bef, rdT_at l i hn]
    by_cases c : i = q
    · subst c
      exact befP_irrefl _
    · exact fun hh => befP_irrefl _ (befP_trans hh (goodP_pair n l none h q i hq hn (by omega)))
end Go.Proofs.Ytpbngmkhpcgpkaa.P
