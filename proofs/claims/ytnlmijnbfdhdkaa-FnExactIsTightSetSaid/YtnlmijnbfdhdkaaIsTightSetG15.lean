/- A set to which a number is added, or from which it is taken: as a list and as a bag. -/
import Derived.Test.YtnlmijnbfdhdkaaIsTightSetG14
import Derived.Test.YtnlmijnbfdhdkaaIsTightSetG8
import Derived.Test.YtnlmijnbfdhdkaaIsTightSetG3
import Derived.Test.YtnlmijnbfdhdkaaIsTightSetG4
import Derived.Test.YtnlmijnbfdhdkaaIsTightSetG6
import Derived.Test.YtnlmijnbfdhdkaaIsTightSetG10
import Derived.Test.YtnlmijnbfdhdkaaIsTightSetG12
import Derived.Handy
import Derived.Test.YtnlmijnbfdhdkaaIsTightSetG13
namespace Go.Proofs.Ytnlmijnbfdhdkaa.P
open Go.RowKit Go.Proofs.YtnlmijnbfdhdkaaW.PrintWords Go.Proofs.YtnlmijnbfdhdkaaW.PrintLast Go.Proofs.YtnlmijnbfdhdkaaW.PrintMore
set_option linter.unusedVariables false
set_option linter.unusedSimpArgs false

def xorI (b x : Int) : Int := Go.bits .xor .u64 b (shl .u64 1 x)
theorem xorI_fin : ∀ b : Fin 256, ∀ x : Fin 8, (0 ≤ xorI b x ∧ xorI b x < 256) ∧ ∀ y : Fin 8, hasI (xorI b x) y = (hasI b y != decide (y = x)) := by decide +kernel
theorem xorI_at {b x : Int} (hb : 0 ≤ b ∧ b < 256) (hx : 0 ≤ x ∧ x < 8) : (0 ≤ xorI b x ∧ xorI b x < 256) ∧ ∀ y, 0 ≤ y → y < 8 → hasI (xorI b x) y = (hasI b y != decide (y = x)) := by
  obtain ⟨i, rfl⟩ := fin_of (n := 256) hb.1 hb.2
  obtain ⟨j, rfl⟩ := fin_of (n := 8) hx.1 hx.2
  have h := xorI_fin i j
  refine ⟨h.1, fun y h0 h8 => ?_⟩
  obtain ⟨q, rfl⟩ := fin_of (n := 8) h0 h8
  rw [h.2 q]
  congr 1
  rw [decide_eq_decide]
  omega
theorem bag_ext {b c : Int} (hb : 0 ≤ b ∧ b < 256) (hc : 0 ≤ c ∧ c < 256) (h : ∀ y : Int, 0 ≤ y → y < 8 → hasI b y = hasI c y) : b = c := by
  obtain ⟨n, rfl⟩ := Int.eq_ofNat_of_zero_le hb.1
  obtain ⟨m, rfl⟩ := Int.eq_ofNat_of_zero_le hc.1
  have hn : n < 256 := by omega
  have hm : m < 256 := by omega
  have : n = m := by
    refine Nat.eq_of_testBit_eq fun q => ?_
    by_cases hq : q < 8
    · have := h (q : Int) (by omega) (by omega)
      rwa [hasI_bit n q hn hq, hasI_bit m q hm hq] at this
    · have hp : 256 ≤ 2 ^ q := by show 2 ^ 8 ≤ 2 ^ q; exact Nat.pow_le_pow_right (by decide) (by omega)
      rw [Nat.testBit_lt_two_pow (Nat.lt_of_lt_of_le hn hp), Nat.testBit_lt_two_pow (Nat.lt_of_lt_of_le hm hp)]
  rw [this]
theorem risI_pw (lo hi : Int) (l : List Int) : ∀ p, risI lo hi p l = true → l.Pairwise (· < ·) ∧ ∀ q, p = some q → ∀ x ∈ l, q < x := by
  induction l with
  | nil => intro p _; exact ⟨.nil, fun _ _ x hx => by cases hx⟩
  | cons y t ih =>
    intro p h
    simp only [risI, Bool.and_eq_true, decide_eq_true_eq] at h
    obtain ⟨_, h2, h3⟩ := h
    obtain ⟨i1, i2⟩ := ih _ h3
    refine ⟨List.pairwise_cons.2 ⟨fun x hx => i2 y rfl x hx, i1⟩, fun q hq x hx => ?_⟩
    subst hq
    have h4 : q < y := by simpa using h2
    rcases List.mem_cons.1 hx with rfl | hx
    · exact h4
    · have := i2 y rfl x hx; omega
theorem risI_of (lo hi : Int) (l : List Int) : ∀ p, l.Pairwise (· < ·) → (∀ x ∈ l, lo ≤ x ∧ x ≤ hi) → (∀ q, p = some q → ∀ x ∈ l, q < x) → risI lo hi p l = true := by
  induction l with
  | nil => intro p _ _ _; cases p <;> rfl
  | cons y t ih =>
    intro p hp hb hq
    obtain ⟨h1, h2⟩ := List.pairwise_cons.1 hp
    have hy := hb y (.head _)
    have ih' := ih (some y) h2 (fun x hx => hb x (.tail _ hx)) (fun q e x hx => by injection e with e; subst e; exact h1 x hx)
    cases p with
    | none => simp only [risI, Bool.and_eq_true, decide_eq_true_eq, true_and]; exact ⟨hy, ih'⟩
    | some q => simp only [risI, Bool.and_eq_true, decide_eq_true_eq]; exact ⟨hy, hq q rfl y (.head _), ih'⟩
theorem without_loop (l : List Int) (hl : l.length ≤ 1048576) (x : Int) (d : Nat) : ∀ (m : Nat) (acc : List Int), l.length - m = d → m ≤ l.length → acc.length ≤ m → Ev (fun k => spec_l4Without.l0 k l x acc (m : Int)) (acc ++ (l.drop m).filter fun y => decide (y ≠ x)) := by
  induction d with
  | zero =>
    intro m acc h0 h1 h2
    rw [List.drop_eq_nil_of_le (by omega), List.filter_nil, List.append_nil]
    refine Ev.step (fun k => by rw [spec_l4Without.l0]) ?_
    exact Ev.neg (by omega) (Ev.now _)
  | succ d ih =>
    intro m acc h0 h1 h2
    have hm : m < l.length := by omega
    refine Ev.step (fun k => by rw [spec_l4Without.l0]) ?_
    refine Ev.pos (by omega) ?_
    refine Ev.pos (by omega) ?_
    rw [rd_at l m hm, List.drop_eq_getElem_cons hm]
    by_cases c : l[m] = x
    · rw [List.filter_cons_of_neg (by simp [c])]
      refine Ev.pos c ?_
      have := ih (m + 1) acc (by omega) (by omega) (by omega)
      rw [← wrap_up hm (by omega)] at this
      exact this
    · rw [List.filter_cons_of_pos (by simp [c])]
      refine Ev.neg c ?_
      refine Ev.pos (by omega) ?_
      have := ih (m + 1) (acc ++ [l[m]]) (by omega) (by omega) (by simp; omega)
      rw [← wrap_up hm (by omega), List.append_assoc, List.singleton_append] at this
      exact this
theorem put_loop (l : List Int) (hl : l.length ≤ 1048576) (x : Int) (hx : x ∉ l) (d : Nat) : ∀ (m : Nat), l.length - m = d → m ≤ l.length → (∀ y ∈ l.take m, y < x) → ∃ q, q ≤ l.length ∧ (∀ y ∈ l.take q, y < x) ∧ (∀ h : q < l.length, x < l[q]) ∧ Ev (fun k => spec_l1Put.l0 k l x (m : Int)) (l.take q ++ [x] ++ l.drop q) := by
  induction d with
  | zero =>
    intro m h0 h1 h2
    refine ⟨m, h1, h2, fun h => by omega, ?_⟩
    refine Ev.step (fun k => by rw [spec_l1Put.l0]) ?_
    refine Ev.neg (by omega) ?_
    refine Ev.bindo rfl ?_
    refine Ev.pos (by omega) ?_
    refine Ev.pos (by omega) ?_
    rw [Int.toNat_natCast]
    have hl1 : (l.take m).length ≤ l.length := by rw [List.length_take]; omega
    have hl2 : (l.drop m).length ≤ l.length := by rw [List.length_drop]; omega
    refine Ev.pos (by simp only [List.length_nil]; omega) ?_
    refine Ev.bindo rfl ?_
    refine Ev.bindo rfl ?_
    refine Ev.pos (by simp only [List.nil_append, List.length_singleton]; omega) ?_
    refine Ev.bindo rfl ?_
    refine Ev.pos (by simp only [List.nil_append, List.length_append, List.length_singleton]; omega) ?_
    exact Ev.now _
  | succ d ih =>
    intro m h0 h1 h2
    have hm : m < l.length := by omega
    have hne : l[m] ≠ x := fun e => hx (e ▸ List.getElem_mem hm)
    by_cases c : l[m] < x
    · obtain ⟨q, q1, q2, q3, q4⟩ := ih (m + 1) (by omega) (by omega) (fun y hy => by
        rw [List.take_add_one, List.getElem?_eq_getElem hm] at hy
        rcases List.mem_append.1 hy with hy | hy
        · exact h2 y hy
        · rw [show y = l[m] by simpa using hy]; exact c)
      rw [← wrap_up hm (by omega)] at q4
      refine ⟨q, q1, q2, q3, ?_⟩
      refine Ev.step (fun k => by rw [spec_l1Put.l0]) ?_
      refine Ev.pos (by omega) ?_
      refine Ev.pos (by omega) ?_
      rw [rd_at l m hm]
      refine Ev.pos c ?_
      exact q4
    · refine ⟨m, h1, h2, fun h => by omega, ?_⟩
      refine Ev.step (fun k => by rw [spec_l1Put.l0]) ?_
      refine Ev.pos (by omega) ?_
      refine Ev.pos (by omega) ?_
      rw [rd_at l m hm]
      refine Ev.neg c ?_
      refine Ev.neg hne ?_
      refine Ev.bindo rfl ?_
      refine Ev.pos (by omega) ?_
      rw [Int.toNat_natCast]
      have hl1 : (l.take m).length ≤ l.length := by rw [List.length_take]; omega
      have hl2 : (l.drop m).length ≤ l.length := by rw [List.length_drop]; omega
      refine Ev.pos (by simp only [List.length_nil]; omega) ?_
      refine Ev.bindo rfl ?_
      refine Ev.bindo rfl ?_
      refine Ev.pos (by simp only [List.nil_append, List.length_singleton]; omega) ?_
      refine Ev.bindo rfl ?_
      refine Ev.pos (by simp only [List.nil_append, List.length_append, List.length_singleton]; omega) ?_
      exact Ev.now _
/-- What the turned set is. -/
theorem turned_ev (l : List Int) (hl : l.length ≤ 1048575) (hp : l.Pairwise (· < ·)) (x : Int) : ∃ R, Ev (fun k => spec_l4Turned.f k l x) R ∧ R.Pairwise (· < ·) ∧ R.length ≤ l.length + 1 ∧ ∀ y, y ∈ R ↔ (y ∈ l ∧ y ≠ x) ∨ (y = x ∧ x ∉ l) := by
  by_cases hx : x ∈ l
  · refine ⟨l.filter fun y => decide (y ≠ x), ?_, hp.filter _, Nat.le_succ_of_le (List.length_filter_le _ _), fun y => ?_⟩
    · unfold spec_l4Turned.f
      refine Ev.bind (l1Has_ev l x (by omega)) ?_
      refine Ev.pos (decide_eq_true hx) ?_
      refine Ev.bind (a := l.filter fun y => decide (y ≠ x)) ?_ (Ev.now _)
      have := without_loop l (by omega) x (l.length - 0) 0 [] rfl (Nat.zero_le _) (Nat.zero_le _)
      simp only [Int.natCast_zero, List.drop_zero, List.nil_append] at this
      exact this
    · rw [List.mem_filter, decide_eq_true_eq]
      exact ⟨fun h => .inl h, fun h => h.elim id fun h => absurd hx h.2⟩
  · obtain ⟨q, q1, q2, q3, q4⟩ := put_loop l (by omega) x hx (l.length - 0) 0 rfl (Nat.zero_le _) (fun y hy => by simp at hy)
    simp only [Int.natCast_zero] at q4
    refine ⟨l.take q ++ [x] ++ l.drop q, ?_, ?_, ?_, fun y => ?_⟩
    · unfold spec_l4Turned.f
      refine Ev.bind (l1Has_ev l x (by omega)) ?_
      refine Ev.neg (by rw [decide_eq_false hx]; decide) ?_
      exact Ev.bind q4 (Ev.now _)
    · have hd : ∀ y ∈ l.drop q, x < y := fun y hy => by
        have hq : q < l.length := by
          rcases Nat.lt_or_ge q l.length with h | h
          · exact h
          · rw [List.drop_eq_nil_of_le h] at hy; cases hy
        have h3 := q3 hq
        have h4 := hp.sublist (List.drop_sublist q l)
        rw [List.drop_eq_getElem_cons hq] at hy h4
        rcases List.mem_cons.1 hy with rfl | hy
        · exact h3
        · have := (List.pairwise_cons.1 h4).1 y hy; omega
      rw [List.append_assoc, List.pairwise_append]
      refine ⟨hp.sublist (List.take_sublist q l), ?_, fun a ha b hb => ?_⟩
      · rw [List.singleton_append, List.pairwise_cons]
        exact ⟨hd, hp.sublist (List.drop_sublist q l)⟩
      · have h1 := q2 a ha
        rw [List.singleton_append] at hb
        rcases List.mem_cons.1 hb with rfl | hb
        · exact h1
        · have := hd b hb; omega
    · rw [List.length_append, List.length_append, List.length_take, List.length_drop, List.length_singleton]; omega
    · have e : y ∈ l ↔ y ∈ l.take q ∨ y ∈ l.drop q := by rw [← List.mem_append, List.take_append_drop]
      rw [List.mem_append, List.mem_append, List.mem_singleton]
      constructor
      · rintro ((h | h) | h)
        · exact .inl ⟨e.2 (.inl h), fun e' => hx (e' ▸ e.2 (.inl h))⟩
        · exact .inr ⟨h, hx⟩
        · exact .inl ⟨e.2 (.inr h), fun e' => hx (e' ▸ e.2 (.inr h))⟩
      · rintro (h | h)
        · rcases e.1 h.1 with h' | h'
          · exact .inl (.inl h')
          · exact .inr h'
        · exact .inl (.inr h.1)
theorem rising_len (l : List Int) : ∀ (lo hi : Int), l.Pairwise (· < ·) → (∀ x ∈ l, lo ≤ x ∧ x ≤ hi) → l.length ≤ (hi + 1 - lo).toNat := by
  induction l with
  | nil => intro lo hi _ _; exact Nat.zero_le _
  | cons x t ih =>
    intro lo hi hp hb
    obtain ⟨h1, h2⟩ := List.pairwise_cons.1 hp
    have hx := hb x (.head _)
    have := ih (x + 1) hi h2 (fun y hy => ⟨by have := h1 y hy; omega, (hb y (.tail _ hy)).2⟩)
    rw [List.length_cons]
    omega
/-- Both sides' test of the turned set. -/
theorem turned_kind (a : Int) (e : List S88) (c : Int) (l : List Int) (he : e.length ≤ 1048576) (hl : l.length ≤ 1048576) (hg : okG a e = true) (hr : risI 0 (wrap64 (a - 1)) none l = true) (x : Int) (hx : 0 ≤ x ∧ x < a) :
    ∃ (R : List Int) (b : Bool), Ev (fun k => spec_l4Turned.f k l x) R ∧ Ev (fun k => spec_l4Has.f k a e c R) b ∧ Ev (fun k => impl_Graph_hasKind.f k a e c (Go.bits .xor .u64 (bagI 0 l) (shl .u64 1 x))) b := by
  have h1 := okG_all hg
  have hw : wrap64 (a - 1) = a - 1 := wrap_nat (by omega) (by omega)
  have hsm := set_small hg hr
  have hp := (risI_pw 0 (wrap64 (a - 1)) l none hr).1
  have hb0 := risI_all 0 (wrap64 (a - 1)) l none hr
  have hlen : l.length ≤ 8 := by
    have := rising_len l 0 7 hp (fun y hy => by have := hsm y hy; omega)
    omega
  obtain ⟨R, r1, r2, r3, r4⟩ := turned_ev l (by omega) hp x
  have hR : ∀ y ∈ R, 0 ≤ y ∧ y ≤ wrap64 (a - 1) := fun y hy => by
    rcases (r4 y).1 hy with h | h
    · exact hb0 y h.1
    · rw [hw]; omega
  have hrR := risI_of 0 (wrap64 (a - 1)) R none r2 hR (fun q e => by cases e)
  refine ⟨R, kindI a e c R, r1, l4Has_ev a e c R he (by omega) h1.2.1, ?_⟩
  have hB := bagI_at l 0 (by omega) hsm
  have hX := xorI_at hB.1 (x := x) (by omega)
  have hBR := bagI_at R 0 (by omega) (set_small hg hrR)
  have heq : Go.bits .xor .u64 (bagI 0 l) (shl .u64 1 x) = bagI 0 R := by
    refine bag_ext hX.1 hBR.1 fun y h0 h8 => ?_
    show hasI (xorI (bagI 0 l) x) y = _
    rw [hX.2 y h0 h8, hB.2 y h0 h8, hBR.2 y h0 h8, hasI_nil h0 h8, Bool.false_or, Bool.false_or, Bool.eq_iff_iff, bne_iff_ne, decide_eq_true_eq, r4]
    by_cases c1 : y ∈ l
    · by_cases c2 : y = x
      · subst c2; simp [c1]
      · simp [c1, c2]
    · by_cases c2 : y = x
      · subst c2; simp [c1]
      · simp [c1, c2]
  rw [heq]
  exact hasKind_ev a e c R he (by omega) hg hrR
end Go.Proofs.Ytnlmijnbfdhdkaa.P
namespace Go.Proofs.Ytnlmijnbfdhdkaa.P
open Go.RowKit Go.Proofs.YtnlmijnbfdhdkaaW.PrintWords Go.Proofs.YtnlmijnbfdhdkaaW.PrintLast Go.Proofs.YtnlmijnbfdhdkaaW.PrintMore
set_option linter.unusedVariables false
set_option linter.unusedSimpArgs false

theorem l4One_ev (a : Int) (e : List S88) (c : Int) (l : List Int) (he : e.length ≤ 1048576) (hl : l.length ≤ 1048576) : Ev (fun k => spec_l4One.f k a e c l) ((kindR a e c l).1 && (kindR a e c l).2) := by
  unfold spec_l4One.f
  refine Ev.bind (spec_HasKind_ev a e c l he hl) ?_
  cases h : (kindR a e c l).1 with
  | true =>
    refine Ev.pos rfl ?_
    rw [Bool.true_and]
    exact Ev.now _
  | false => exact Ev.neg (by decide) (Ev.now _)
theorem isOfKind_ev (a : Int) (e : List S88) (c : Int) (l : List Int) (he : e.length ≤ 1048576) (hl : l.length ≤ 1048576) : Ev (fun k => impl_isOfKind.f k a e c l) (kindR a e c l).1 := by
  unfold impl_isOfKind.f
  exact Ev.bind (impl_HasKind_ev a e c l he hl) (Ev.now _)
theorem kindR_good {a : Int} {e : List S88} {c : Int} {l : List Int} (h : (kindR a e c l).1 = true) : (kindR a e c l).2 = true ∧ okG a e = true ∧ risI 0 (wrap64 (a - 1)) none l = true := by
  unfold kindR at h ⊢
  by_cases h1 : (okG a e = true ∧ (1 ≤ c ∧ c ≤ 3)) ∧ risI 0 (wrap64 (a - 1)) none l = true
  · rw [if_pos h1] at h ⊢
    exact ⟨rfl, h1.1.1, h1.2⟩
  · rw [if_neg h1] at h
    cases h
section
variable (a : Int) (e : List S88) (c : Int) (l : List Int) (he : e.length ≤ 1048576) (hl : l.length ≤ 1048576) (hg : okG a e = true) (hr : risI 0 (wrap64 (a - 1)) none l = true)
include he hl hg hr
end
end Go.Proofs.Ytnlmijnbfdhdkaa.P
namespace Go.Proofs.Ytnlmijnbfdhdkaa.P
open Go.RowKit Go.Proofs.YtnlmijnbfdhdkaaW.PrintWords Go.Proofs.YtnlmijnbfdhdkaaW.PrintLast Go.Proofs.YtnlmijnbfdhdkaaW.PrintMore
set_option linter.unusedVariables false
set_option linter.unusedSimpArgs false

section
variable (a : Int) (e : List S88) (c : Int) (l : List Int) (he : e.length ≤ 1048576) (hl : l.length ≤ 1048576) (hg : okG a e = true) (hr : risI 0 (wrap64 (a - 1)) none l = true)
include he hl hg hr
theorem tight_loop (d : Nat) : ∀ (x : Int), (a - x).toNat = d → 0 ≤ x → ∃ b : Bool, Ev (fun k => spec_l4Tight.l0 k c l x a e) b ∧ Ev (fun k => impl_Graph_isTight.l0 k c (bagI 0 l) a x a e) b := by
  have h1 := okG_all hg
  have hsm := set_small hg hr
  have hB := bagI_at l 0 (by omega) hsm
  induction d with
  | zero =>
    intro x h0 hx
    refine ⟨true, ?_, ?_⟩
    · refine Ev.step (fun k => by rw [spec_l4Tight.l0]) ?_
      exact Ev.neg (by omega) (Ev.now _)
    · refine Ev.step (fun k => by rw [impl_Graph_isTight.l0]) ?_
      exact Ev.neg (by omega) (Ev.now _)
  | succ d ih =>
    intro x h0 hx
    have hxa : x < a := by omega
    obtain ⟨T, b, t1, t2, t3⟩ := turned_kind a e c l he hl hg hr x ⟨hx, hxa⟩
    obtain ⟨R, r1, r2⟩ := ih (x + 1) (by omega) (by omega)
    rw [← show wrap64 (x + 1) = x + 1 from wrap_nat (by omega) (by omega)] at r1 r2
    have hh : hasI (bagI 0 l) x = decide (x ∈ l) := by rw [hB.2 x hx (by omega), hasI_nil hx (by omega), Bool.false_or]
    by_cases ck : (decide (x ∈ l) == (c != 2)) = true
    · have ck2 : (decide (x ∈ l) != (c == 2)) = true := by
        revert ck
        cases decide (x ∈ l) <;> by_cases c2 : c = 2 <;> simp [c2, bne]
      cases b with
      | true =>
        refine ⟨false, ?_, ?_⟩
        · refine Ev.step (fun k => by rw [spec_l4Tight.l0]) ?_
          refine Ev.pos hxa ?_
          refine Ev.bind (l1Has_ev l x hl) ?_
          refine Ev.pos ck ?_
          refine Ev.bind t1 ?_
          refine Ev.bind t2 ?_
          exact Ev.pos rfl (Ev.now _)
        · refine Ev.step (fun k => by rw [impl_Graph_isTight.l0]) ?_
          refine Ev.pos hxa ?_
          refine Ev.bindo (bag_has_at hx) ?_
          rw [hh]
          refine Ev.pos ck2 ?_
          refine Ev.pos hx ?_
          refine Ev.bind t3 ?_
          exact Ev.pos rfl (Ev.now _)
      | false =>
        refine ⟨R, ?_, ?_⟩
        · refine Ev.step (fun k => by rw [spec_l4Tight.l0]) ?_
          refine Ev.pos hxa ?_
          refine Ev.bind (l1Has_ev l x hl) ?_
          refine Ev.pos ck ?_
          refine Ev.bind t1 ?_
          refine Ev.bind t2 ?_
          refine Ev.neg (by decide) ?_
          exact r1
        · refine Ev.step (fun k => by rw [impl_Graph_isTight.l0]) ?_
          refine Ev.pos hxa ?_
          refine Ev.bindo (bag_has_at hx) ?_
          rw [hh]
          refine Ev.pos ck2 ?_
          refine Ev.pos hx ?_
          refine Ev.bind t3 ?_
          refine Ev.neg (by decide) ?_
          exact r2
    · have ck2 : ¬ (decide (x ∈ l) != (c == 2)) = true := by
        revert ck
        cases decide (x ∈ l) <;> by_cases c2 : c = 2 <;> simp [c2, bne]
      refine ⟨R, ?_, ?_⟩
      · refine Ev.step (fun k => by rw [spec_l4Tight.l0]) ?_
        refine Ev.pos hxa ?_
        refine Ev.bind (l1Has_ev l x hl) ?_
        refine Ev.neg ck ?_
        exact r1
      · refine Ev.step (fun k => by rw [impl_Graph_isTight.l0]) ?_
        refine Ev.pos hxa ?_
        refine Ev.bindo (bag_has_at hx) ?_
        rw [hh]
        refine Ev.neg ck2 ?_
        exact r2
end
theorem Both_FnExactIsTightSet (a0_0 : Int) (l0_1 : List S88) (a1 : Int) (l2 : List Int) (w0_0 : (Lit.int .i64 a0_0).wf = true) (w0_1 : FitP l0_1) (w1 : (Lit.int .i64 a1).wf = true) (w2 : FitL l2) (hn0 : l0_1.length ≤ 1048576) (hl2 : l2.length ≤ 1048576) : ∃ (q0 : Bool) (q1 : Bool), Ev (fun k => spec_IsTightSet.f k a0_0 l0_1 a1 l2) (q0, q1) ∧ Ev (fun k => impl_IsTightSet.f k a0_0 l0_1 a1 l2) (q0, q1) := by
  have hs := l4One_ev a0_0 l0_1 a1 l2 hn0 hl2
  have hi := isOfKind_ev a0_0 l0_1 a1 l2 hn0 hl2
  cases h : (kindR a0_0 l0_1 a1 l2).1 with
  | true =>
    obtain ⟨g1, g2, g3⟩ := kindR_good h
    rw [h, g1] at hs
    rw [h] at hi
    obtain ⟨b, r1, r2⟩ := tight_loop a0_0 l0_1 a1 l2 hn0 hl2 g2 g3 (a0_0 - 0).toNat 0 rfl (Int.le_refl _)
    refine ⟨b, true, ?_, ?_⟩
    · unfold spec_IsTightSet.f
      refine Ev.bind hs ?_
      refine Ev.pos rfl ?_
      exact Ev.bind r1 (Ev.now _)
    · unfold impl_IsTightSet.f
      refine Ev.bind hi ?_
      refine Ev.pos rfl ?_
      refine Ev.bind (bagOf_ev l2 hl2 (set_small g2 g3)) ?_
      exact Ev.bind r2 (Ev.now _)
  | false =>
    rw [h, Bool.false_and] at hs
    rw [h] at hi
    refine ⟨false, false, ?_, ?_⟩
    · unfold spec_IsTightSet.f
      refine Ev.bind hs ?_
      exact Ev.neg (by decide) (Ev.now _)
    · unfold impl_IsTightSet.f
      refine Ev.bind hi ?_
      exact Ev.neg (by decide) (Ev.now _)
end Go.Proofs.Ytnlmijnbfdhdkaa.P
namespace Go.Proofs.Ytnlmijnbfdhdkaa.P
open Go.RowKit Go.Proofs.YtnlmijnbfdhdkaaW.PrintWords Go.Proofs.YtnlmijnbfdhdkaaW.PrintLast Go.Proofs.YtnlmijnbfdhdkaaW.PrintMore
set_option linter.unusedVariables false
set_option maxHeartbeats 1000000 in
theorem Law_FnExactIsTightSet (a0_0 : Int) (A0_1 : Option Addr) (c0_1 : Nat) (l0_1 : List (S88)) (a1 : Int) (A2 : Option Addr) (c2 : Nat) (l2 : List Int) (w : World) (hr0_1 : Kd.C k88 w A0_1 l0_1.length l0_1) (hc0_1 : l0_1.length ≤ c0_1) (hr2 : Kd.C (Kd.int .i64) w A2 l2.length l2) (hc2 : l2.length ≤ c2) (w0_0 : (Lit.int .i64 a0_0).wf = true) (w0_1 : FitP l0_1) (w1 : (Lit.int .i64 a1).wf = true) (w2 : FitL l2) :
    Calls Try.prog 3 #[.agg #[.int .i64 a0_0, .slice A0_1 l0_1.length c0_1], .int .i64 a1, .slice A2 l2.length c2] w fun e w' => e = .returned (.bool true) ∧ Below w.heap.size w w' := by
  by_cases c0 : 1048576 < (l2.length : Int)
  · exact laws_FnExactIsTightSet.exit0 a0_0 A0_1 c0_1 l0_1 a1 A2 c2 l2 w hr0_1 hc0_1 hr2 hc2 c0
  have hl2 : l2.length ≤ 1048576 := by omega
  obtain ⟨t0, h0, m1⟩ := sz_graph a0_0 l0_1 w0_1.1
  by_cases c1 : t0 < 0
  · exact laws_FnExactIsTightSet.exit1 a0_0 A0_1 c0_1 l0_1 a1 A2 c2 l2 t0 w hr0_1 hc0_1 hr2 hc2 c0 c1 h0
  have hn0 := m1.resolve_left c1
  obtain ⟨q0, q1, es, ei⟩ := Both_FnExactIsTightSet a0_0 l0_1 a1 l2 w0_0 w0_1 w1 w2 hn0 hl2
  obtain ⟨k1, h1⟩ := Ev.rounds (toGraph_ev a0_0 l0_1 hn0)
  obtain ⟨k2, h2⟩ := Ev.rounds (toIntS_ev l2 hl2)
  obtain ⟨k3, h3⟩ := Ev.rounds (es)
  obtain ⟨k4, h4⟩ := Ev.rounds (ei)
  obtain ⟨k5, h5⟩ := Ev.rounds (eqGraph_ev a0_0 l0_1 hn0)
  obtain ⟨k6, h6⟩ := Ev.rounds (eqIntS_ev l2 hl2)
  exact laws_FnExactIsTightSet.walk a0_0 A0_1 c0_1 l0_1 a1 A2 c2 l2 k1 k2 k3 k4 k5 k6 t0 q0 q1 w hr0_1 hc0_1 hr2 hc2 c0 c1 h0 h1 h2 h3 h4 h5 h6 
end Go.Proofs.Ytnlmijnbfdhdkaa.P
