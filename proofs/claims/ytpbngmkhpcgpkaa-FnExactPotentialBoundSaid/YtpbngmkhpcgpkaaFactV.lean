/- Values of places: both sides' tests of them, and by how much they differ along steps. -/
import Derived.Test.YtpbngmkhpcgpkaaFactS
import Derived.Test.YtpbngmkhpcgpkaaExtW
import Derived.Test.YtpbngmkhpcgpkaaPx27
import Derived.Test.YtpbngmkhpcgpkaaPx31
namespace Go.Proofs.Ytpbngmkhpcgpkaa.P
open Go.RowKit Go.Proofs.YtpbngmkhpcgpkaaW.PrintWords Go.Proofs.YtpbngmkhpcgpkaaW.PrintLast Go.Proofs.YtpbngmkhpcgpkaaW.PrintMore
set_option linter.unusedVariables false

def areV (l : List (List Int)) (v : List Int) : Bool := decide ((v.length : Int) = (l.length : Int)) && !(v.any (outB 1000000))
theorem areValues_at (l : List (List Int)) (e : List S68) (v : List Int) : impl_Space_areValues.f l e v = some (areV l v) := rfl
theorem l2Values_loop (l : List (List Int)) (e : List S68) (h : modS l e) (v : List Int) (hv : v.length ≤ 1048576) (d : Nat) : ∀ (m : Nat), v.length - m = d → m ≤ v.length →
    Ev (fun k => spec_l2Values.l0 k v (m : Int) l e) (okS l e && (decide ((v.length : Int) = (l.length : Int)) && !((v.drop m).any (outB 1000000)))) := by
  induction d with
  | zero =>
    intro m h0 h1
    refine Ev.step (fun k => by rw [spec_l2Values.l0]) (Ev.neg (by omega) ?_)
    rw [List.drop_eq_nil_of_le (by omega), List.any_nil, Bool.not_false, Bool.and_true]
    refine Ev.bind (l2Space_ev l e h) ?_
    cases okS l e with
    | true => rw [Bool.true_and]; exact Ev.pos rfl (Ev.now _)
    | false => rw [Bool.false_and]; exact Ev.neg (by decide) (Ev.now _)
  | succ d ih =>
    intro m h0 h1
    have hm : m < v.length := by omega
    refine Ev.step (fun k => by rw [spec_l2Values.l0]) (Ev.pos (by omega) (Ev.pos (by omega) ?_))
    rw [rd_at v m hm, List.drop_eq_getElem_cons hm, List.any_cons]
    refine Ev.bindo (in_at _ _ _) ?_
    have ho : outB 1000000 v[m] = !(decide (-1000000 ≤ v[m]) && decide (v[m] ≤ 1000000)) := rfl
    rw [ho]
    cases (decide (-1000000 ≤ v[m]) && decide (v[m] ≤ 1000000)) with
    | true =>
      rw [Bool.not_true, Bool.false_or, wrap_up hm (by omega)]
      exact Ev.pos rfl (ih (m + 1) (by omega) (by omega))
    | false =>
      rw [Bool.not_false, Bool.true_or, Bool.not_true, Bool.and_false, Bool.and_false]
      exact Ev.neg (by decide) (Ev.now _)
theorem l2Values_ev (l : List (List Int)) (e : List S68) (h : modS l e) (v : List Int) (hv : v.length ≤ 1048576) : Ev (fun k => spec_l2Values.f k l e v) (okS l e && areV l v) :=
  l2Values_loop l e h v hv v.length 0 (by omega) (Nat.zero_le _)
/-- By how much two values differ. -/
def difI (v : List Int) (a b : Int) : Int := mx (wrap64 (rd v a - rd v b)) (wrap64 (rd v b - rd v a))
theorem most_at (a b : Int) : spec_l1Most.f a b = some (mx a b) := by
  unfold spec_l1Most.f mx
  by_cases h : a > b
  · rw [if_pos h, if_neg (by omega)]
  · rw [if_neg h]
    by_cases h2 : a < b
    · rw [if_pos h2]
    · rw [if_neg h2, show a = b by omega]
theorem differ_at (v : List Int) (a b : Int) (ha : 0 ≤ a ∧ a < (v.length : Int)) (hb : 0 ≤ b ∧ b < (v.length : Int)) : impl_differ.f v a b = some (difI v a b) := by
  unfold impl_differ.f difI
  rw [if_pos ha.1, if_pos ha.2, if_pos hb.1, if_pos hb.2]
def apartI (v : List Int) : Int → List S68 → Int
  | c, [] => c
  | c, s :: t => apartI v (mx c (difI v s.f0 s.f1)) t
theorem apart_le (v : List Int) (b : Int) (e : List S68) : ∀ c, apartI v c e ≤ b ↔ c ≤ b ∧ ∀ s ∈ e, difI v s.f0 s.f1 ≤ b := by
  induction e with
  | nil => intro c; simp [apartI]
  | cons s t ih =>
    intro c
    rw [apartI, ih]
    have : mx c (difI v s.f0 s.f1) ≤ b ↔ c ≤ b ∧ difI v s.f0 s.f1 ≤ b := by
      unfold mx
      split <;> omega
    rw [this]
    simp only [List.mem_cons, forall_eq_or_imp]
    exact and_assoc
theorem apart_ge (v : List Int) (e : List S68) : ∀ c, c ≤ apartI v c e := by
  intro c
  exact ((apart_le v (apartI v c e) e c).1 (Int.le_refl _)).1
theorem l2Apart_loop (l : List (List Int)) (e : List S68) (v : List Int) (he : e.length ≤ 1048576) (hb : ∀ s ∈ e, (0 ≤ s.f0 ∧ s.f0 < (v.length : Int)) ∧ (0 ≤ s.f1 ∧ s.f1 < (v.length : Int))) (d : Nat) : ∀ (m : Nat) (c : Int), e.length - m = d → m ≤ e.length →
    Ev (fun k => spec_l2Apart.l0 k v c (m : Int) l e) (apartI v c (e.drop m)) := by
  induction d with
  | zero =>
    intro m c h0 h1
    refine Ev.step (fun k => by rw [spec_l2Apart.l0]) (Ev.neg (by omega) ?_)
    rw [List.drop_eq_nil_of_le (by omega)]
    exact Ev.now _
  | succ d ih =>
    intro m c h0 h1
    have hm : m < e.length := by omega
    have h2 := hb e[m] (List.getElem_mem hm)
    refine Ev.step (fun k => by rw [spec_l2Apart.l0]) (Ev.pos (by omega) (Ev.pos (by omega) ?_))
    rw [rdT_at e m hm, List.drop_eq_getElem_cons hm, apartI]
    refine Ev.pos h2.1.1 (Ev.pos h2.1.2 (Ev.pos h2.2.1 (Ev.pos h2.2.2 (Ev.bindo (most_at _ _) (Ev.bindo (most_at _ _) ?_)))))
    rw [wrap_up hm (by omega)]
    exact ih (m + 1) _ (by omega) (by omega)
theorem goodP_allV (n : Int) (l : List S68) : ∀ p, goodP n p l = true → ∀ e ∈ l, 0 ≤ e.f0 ∧ e.f0 < e.f1 ∧ e.f1 < n := by
  induction l with
  | nil => intro p h e he; simp at he
  | cons x t ih =>
    intro p h e he
    simp only [goodP, Bool.and_eq_true, decide_eq_true_eq] at h
    obtain ⟨⟨⟨h1, h2⟩, h3⟩, h4, h5⟩ := h
    rcases List.mem_cons.1 he with rfl | he
    · exact ⟨h1, h2, h3⟩
    · exact ih _ h5 e he
/-- The steps of a valid space lead between places. -/
theorem okS_steps {l : List (List Int)} {e : List S68} (h : okS l e = true) : l.length ≤ 300 ∧ e.length ≤ 6000 ∧ ∀ s ∈ e, 0 ≤ s.f0 ∧ s.f0 < s.f1 ∧ s.f1 < (l.length : Int) := by
  simp only [okS, Bool.and_eq_true, decide_eq_true_eq] at h
  exact ⟨by omega, by omega, goodP_allV _ e none h.2.2⟩
theorem areV_len {l : List (List Int)} {v : List Int} (h : areV l v = true) : v.length = l.length := by
  simp only [areV, Bool.and_eq_true, decide_eq_true_eq] at h
  omega
theorem steps_in {l : List (List Int)} {e : List S68} {v : List Int} (h : okS l e = true) (hv : areV l v = true) : ∀ s ∈ e, (0 ≤ s.f0 ∧ s.f0 < (v.length : Int)) ∧ (0 ≤ s.f1 ∧ s.f1 < (v.length : Int)) := by
  intro s hs
  have := (okS_steps h).2.2 s hs
  have := areV_len hv
  omega
theorem l2Apart_ev (l : List (List Int)) (e : List S68) (v : List Int) (h : okS l e = true) (hv : areV l v = true) : Ev (fun k => spec_l2Apart.f k l e v) (apartI v 0 e) :=
  l2Apart_loop l e v (by have := okS_steps h; omega) (steps_in h hv) e.length 0 0 (by omega) (Nat.zero_le _)
theorem within_at (l : List (List Int)) (e : List S68) (v : List Int) (c : Int) (hc : 0 ≤ c) (h : okS l e = true) (hv : areV l v = true) : impl_Space_within.f l e v c = some (decide (apartI v 0 e ≤ c)) := by
  have hb := steps_in h hv
  unfold impl_Space_within.f
  have h1 : e.all (fun s => (impl_differ.f v s.f0 s.f1).isSome) = true := by
    rw [List.all_eq_true]
    intro s hs
    rw [differ_at v _ _ (hb s hs).1 (hb s hs).2]
    rfl
  rw [if_pos h1]
  congr 1
  rw [Bool.eq_iff_iff, Bool.not_eq_true', List.any_eq_false, decide_eq_true_eq, apart_le]
  constructor
  · intro hh
    refine ⟨hc, fun s hs => ?_⟩
    have := hh s hs
    unfold overB at this
    rw [differ_at v _ _ (hb s hs).1 (hb s hs).2, Option.getD_some, decide_eq_true_eq] at this
    omega
  · intro hh s hs
    have := hh.2 s hs
    unfold overB
    rw [differ_at v _ _ (hb s hs).1 (hb s hs).2, Option.getD_some, decide_eq_true_eq]
    omega
end Go.Proofs.Ytpbngmkhpcgpkaa.P
