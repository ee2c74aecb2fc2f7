/- Marks in lists of lists and in spaces: they stay small, and they are held. -/
import Derived.Test.YthnojbafclglpaaInducedSpaceG17
import Derived.Test.YthnojbafclglpaaInducedSpaceG14
import Derived.Test.YthnojbafclglpaaInducedSpaceG15
import Derived.Test.YthnojbafclglpaaInducedSpaceG16
namespace Go.Proofs.Ythnojbafclglpaa.P
open Go.RowKit Go.Proofs.YthnojbafclglpaaW.PrintWords Go.Proofs.YthnojbafclglpaaW.PrintLast Go.Proofs.YthnojbafclglpaaW.PrintMore
set_option linter.unusedVariables false
set_option linter.unusedSimpArgs false

theorem seqS_eq (n : Nat) : ∀ k, seqS n k = seqI n k := by
  induction n with
  | zero => intro k; rfl
  | succ n ih => intro k; simp only [seqS, seqI, ih]
theorem endS_eq (n : Nat) : ∀ k, endS n k = endI n k := by
  induction n with
  | zero => intro k; rfl
  | succ n ih => intro k; simp only [endS, endI, ih]
theorem end_pos (n : Nat) (k : Int) (hn : n ≤ 1048576) (h0 : 0 ≤ k) (h1 : k ≤ 2305843009213693952) : ¬ endI n k < 0 := by rw [endI_at n k h0 (by omega)]; omega
theorem markSS_fst (l : List (List Int)) : ∀ (k : Int), (∀ s ∈ l, s.length ≤ 1048576) → 0 ≤ k → k + 1048576 * (l.length : Int) ≤ 2305843009213693952 → 0 ≤ (markSS l k).1 ∧ (markSS l k).1 ≤ k + 1048576 * (l.length : Int) := by
  induction l with
  | nil => intro k _ h0 h1; simp only [markSS, List.length_nil]; omega
  | cons s t ih =>
    intro k hs h0 h1
    have h2 := hs s (.head _)
    rw [List.length_cons] at h1 ⊢
    have e1 : endS s.length k = k + (s.length : Int) := by rw [endS_eq, endI_at s.length k h0 (by omega)]
    simp only [markSS, e1]
    have := ih (k + (s.length : Int)) (fun q hq => hs q (.tail _ hq)) (by omega) (by omega)
    omega
theorem markSpace_at (l : List (List Int)) (e : List S64) (k : Int) : laws_markSpace.f l e k = some ((mark2 e (markSS l k).1).1, (markSS l k).2, (mark2 e (markSS l k).1).2) := rfl
theorem markSpace_le (l : List (List Int)) (e : List S64) (h : modS l e) : 0 ≤ (mark2 e (markSS l 1).1).1 ∧ (mark2 e (markSS l 1).1).1 ≤ 1125899906842624 + 1125899906842624 := by
  have h1 := markSS_fst l 1 h.2.1 (by omega) (by have := h.1; omega)
  have h2 := h.1
  have h3 := h.2.2
  rw [mark2_fst e _ h1.1 (by omega)]
  omega
theorem markSpace_pos (l : List (List Int)) (e : List S64) (h : modS l e) : ¬ (mark2 e (markSS l 1).1).1 < 0 := by have := (markSpace_le l e h).1; omega
theorem markSS_pos (l : List (List Int)) (h0 : l.length ≤ 1048576) (h : ∀ s ∈ l, s.length ≤ 1048576) : ¬ (markSS l 1).1 < 0 := by
  have h1 := markSS_fst l 1 h (by omega) (by omega)
  omega
theorem markSpace_ex (l : List (List Int)) (e : List S64) (h : modS l e) : ∃ k a b, laws_markSpace.f l e 1 = some (k, a, b) ∧ ¬ k < 0 ∧ k ≤ 2251799813685248 := ⟨_, _, _, markSpace_at l e 1, markSpace_pos l e h, (markSpace_le l e h).2⟩
theorem markInt_ex (l : List Int) (c : Int) (h : l.length ≤ 1048576) (hc : 0 ≤ c ∧ c ≤ 2251799813685248) : ∃ k b n, laws_markIntS.f n l c = some (k, b) ∧ ¬ k < 0 ∧ k ≤ 2305843009213693952 := by
  obtain ⟨n, hn⟩ := Ev.rounds (markInt_ev l c h)
  exact ⟨_, _, n, hn, end_pos _ _ h hc.1 (by omega), by rw [endI_at l.length c hc.1 (by omega)]; omega⟩
theorem heldSS_loop (done : List (List Int)) : ∀ (t : List (List Int)) (k : Int), (∀ s ∈ t, s.length ≤ 1048576) → 0 ≤ k → k + 1048576 * (t.length : Int) ≤ 2305843009213693952 → done.length + t.length ≤ 1048576 → Ev (fun n => laws_heldIntSS.l0 n (done ++ (markSS t k).2) k (done.length : Int)) (markSS t k).1 := by
  intro t
  induction t generalizing done with
  | nil =>
    intro k _ h0 h1 h2
    refine Ev.step (fun n => by rw [laws_heldIntSS.l0]) (Ev.neg (by simp [markSS]) ?_)
    exact Ev.now _
  | cons s t ih =>
    intro k hs h0 h1 h2
    have h3 := hs s (.head _)
    rw [List.length_cons] at h1 h2
    have e1 : endS s.length k = k + (s.length : Int) := by rw [endS_eq, endI_at s.length k h0 (by omega)]
    simp only [markSS, e1]
    have hlen : done.length < (done ++ seqS s.length k :: (markSS t (k + (s.length : Int))).2).length := by simp
    refine Ev.step (fun n => by rw [laws_heldIntSS.l0]) (Ev.pos (by omega) (Ev.pos (by omega) ?_))
    rw [rdL_at _ done.length hlen, List.getElem_append_right (Nat.le_refl _)]
    simp only [Nat.sub_self, List.getElem_cons_zero]
    have hh := heldInt_ev s.length k h3
    rw [← seqS_eq, ← endS_eq, e1] at hh
    refine Ev.bind hh (Ev.neg (by omega) ?_)
    have := ih (done ++ [seqS s.length k]) (k + (s.length : Int)) (fun q hq => hs q (.tail _ hq)) (by omega) (by omega) (by simp; omega)
    rw [List.append_assoc, List.singleton_append] at this
    have ew : wrap64 ((done.length : Int) + 1) = ((done ++ [seqS s.length k]).length : Int) := by
      rw [List.length_append, List.length_singleton]; unfold wrap64; omega
    rw [ew]
    exact this
theorem heldSS_ev (t : List (List Int)) (h : ∀ s ∈ t, s.length ≤ 1048576) (hl : t.length ≤ 1048576) : Ev (fun n => laws_heldIntSS.f n (markSS t 1).2 1) (markSS t 1).1 := by
  have := heldSS_loop [] t 1 h (by omega) (by omega) (by simpa using hl)
  simpa [laws_heldIntSS.f] using this
theorem heldSpace_ev (l : List (List Int)) (e : List S64) (h : modS l e) : Ev (fun n => laws_heldSpace.f n (markSS l 1).2 (mark2 e (markSS l 1).1).2 1) (mark2 e (markSS l 1).1).1 := by
  unfold laws_heldSpace.f
  refine Ev.bind (heldSS_ev l h.2.1 h.1) (Ev.neg (markSS_pos l h.1 h.2.1) ?_)
  refine Ev.bindo (show laws_heldIntA2S.f (mark2 e (markSS l 1).1).2 (markSS l 1).1 = some (mark2 e (markSS l 1).1).1 from ?_) (Ev.neg (markSpace_pos l e h) (Ev.now _))
  unfold laws_heldIntA2S.f
  rw [held_mark2]
theorem heldSpace_of (l : List (List Int)) (e : List S64) (h : modS l e) {k : Int} {a : List (List Int)} {b : List S64} (hk : laws_markSpace.f l e 1 = some (k, a, b)) : Ev (fun n => laws_heldSpace.f n a b 1) k := by
  rw [markSpace_at] at hk
  injection hk with hk
  injection hk with h1 h2
  injection h2 with h2 h3
  subst h1; subst h2; subst h3
  exact heldSpace_ev l e h
end Go.Proofs.Ythnojbafclglpaa.P
namespace Go.Proofs.Ythnojbafclglpaa.P
open Go.RowKit Go.Proofs.YthnojbafclglpaaW.PrintWords Go.Proofs.YthnojbafclglpaaW.PrintLast Go.Proofs.YthnojbafclglpaaW.PrintMore
set_option linter.unusedVariables false
set_option maxHeartbeats 1000000 in
theorem Law_FnExactInducedSpace (A0_0 : Option Addr) (ca0_0 : Nat) (l0_0 : List (List Int)) (A0_1 : Option Addr) (ca0_1 : Nat) (l0_1 : List (S64)) (A1 : Option Addr) (ca1 : Nat) (l1 : List Int) (w : World) (hr0_0 : Kd.C (Kd.slice 3 (Kd.int .i64)) w A0_0 l0_0.length l0_0) (hc0_0 : l0_0.length ≤ ca0_0) (hr0_1 : Kd.C k64 w A0_1 l0_1.length l0_1) (hc0_1 : l0_1.length ≤ ca0_1) (hr1 : Kd.C (Kd.int .i64) w A1 l1.length l1) (hc1 : l1.length ≤ ca1) (w0_0 : FitLL l0_0) (w0_1 : FitP l0_1) (w1 : FitL l1) :
    Calls Try.prog 3 #[.agg #[.slice A0_0 l0_0.length ca0_0, .slice A0_1 l0_1.length ca0_1], .slice A1 l1.length ca1] w fun e w' => e = .returned (.bool true) ∧ Below w.heap.size w w' := by
  by_cases c0 : 1048576 < (l1.length : Int)
  · exact laws_FnExactInducedSpace.exit0 A0_0 ca0_0 l0_0 A0_1 ca0_1 l0_1 A1 ca1 l1 w hr0_0 hc0_0 hr0_1 hc0_1 hr1 hc1 c0
  have hl1 : l1.length ≤ 1048576 := by omega
  obtain ⟨t0, e1, m1⟩ := sz_space l0_0 l0_1 w0_0 w0_1.1
  obtain ⟨k0, h0⟩ := Ev.rounds e1
  by_cases c1 : t0 < 0
  · exact laws_FnExactInducedSpace.exit1 A0_0 ca0_0 l0_0 A0_1 ca0_1 l0_1 A1 ca1 l1 k0 t0 w hr0_0 hc0_0 hr0_1 hc0_1 hr1 hc1 c0 c1 h0
  have hm0 := m1.resolve_left c1
  obtain ⟨q0, q1, q2, es, ei, hb1⟩ := Both_FnExactInducedSpace l0_0 l0_1 l1 w0_0 w0_1 w1 hm0 hl1
  obtain ⟨k1, h1⟩ := Ev.rounds (toSpace_ev l0_0 l0_1 hm0)
  obtain ⟨k2, h2⟩ := Ev.rounds (toIntS_ev l1 hl1)
  obtain ⟨k3, h3⟩ := Ev.rounds (es)
  obtain ⟨k4, h4⟩ := Ev.rounds (ei)
  obtain ⟨k5, h5⟩ := Ev.rounds (eqSpace_ev q0 q1 hb1)
  obtain ⟨k6, h6⟩ := Ev.rounds (eqSpace_ev l0_0 l0_1 hm0)
  obtain ⟨k7, h7⟩ := Ev.rounds (eqIntS_ev l1 hl1)
  obtain ⟨kk0, mk0_0, mk0_1, h8, nkk0, pkk0⟩ := markSpace_ex l0_0 l0_1 hm0
  obtain ⟨kk1, mk1_0, k9, h9, nkk1, pkk1⟩ := markInt_ex l1 kk0 hl1 ⟨by omega, pkk0⟩
  obtain ⟨kk2, mk2_0, mk2_1, h10, nkk2, pkk2⟩ := markSpace_ex q0 q1 hb1
  obtain ⟨k11, h11⟩ := Ev.rounds (heldSpace_of q0 q1 hb1 h10)
  exact laws_FnExactInducedSpace.walk A0_0 ca0_0 l0_0 A0_1 ca0_1 l0_1 A1 ca1 l1 k0 k1 k2 k3 k4 k5 k6 k7 k9 k11 t0 q0 q1 q2 kk0 mk0_0 mk0_1 kk1 mk1_0 kk2 mk2_0 mk2_1 w hr0_0 hc0_0 hr0_1 hc0_1 hr1 hc1 c0 c1 h0 h1 h2 h3 h4 h5 h6 h7 h8 h9 h10 h11 nkk1 nkk2
end Go.Proofs.Ythnojbafclglpaa.P
