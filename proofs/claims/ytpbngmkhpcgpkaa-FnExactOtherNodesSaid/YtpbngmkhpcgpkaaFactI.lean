/- Marks in a list of numbers are held. -/
import Derived.Test.YtpbngmkhpcgpkaaFactH
import Derived.Test.YtpbngmkhpcgpkaaPx19
namespace Go.Proofs.Ytpbngmkhpcgpkaa.P
open Go.RowKit Go.Proofs.YtpbngmkhpcgpkaaW.PrintWords Go.Proofs.YtpbngmkhpcgpkaaW.PrintLast Go.Proofs.YtpbngmkhpcgpkaaW.PrintMore
set_option linter.unusedVariables false
set_option linter.unusedSimpArgs false

def seqI : Nat → Int → List Int
  | 0, _ => []
  | n + 1, k => k :: seqI n (wrap64 (k + 1))
def endI : Nat → Int → Int
  | 0, k => k
  | n + 1, k => endI n (wrap64 (k + 1))
theorem seqI_len (n : Nat) : ∀ k, (seqI n k).length = n := by
  induction n with
  | zero => intro k; rfl
  | succ n ih => intro k; simp [seqI, ih]
theorem endI_at (n : Nat) : ∀ k, 0 ≤ k → k + (n : Int) ≤ 4611686018427387904 → endI n k = k + (n : Int) := by
  induction n with
  | zero => intro k h1 h2; simp [endI]
  | succ n ih =>
    intro k h1 h2
    have e1 : wrap64 (k + 1) = k + 1 := wrap_nat (by omega) (by omega)
    rw [endI, e1, ih (k + 1) (by omega) (by omega)]
    omega
theorem markInt_loop (d : Nat) : ∀ (done rest : List Int) (c : Int), rest.length = d → done.length + d ≤ 1048576 →
    Ev (fun k => laws_markIntS.l0 k (done ++ rest) c (done.length : Int)) (endI d c, done ++ seqI d c) := by
  induction d with
  | zero =>
    intro done rest c h0 h1
    refine Ev.step (fun k => by rw [laws_markIntS.l0]) ?_
    have : rest = [] := List.eq_nil_of_length_eq_zero h0
    subst this
    refine Ev.neg (by simp) ?_
    exact Ev.now _
  | succ d ih =>
    intro done rest c h0 h1
    obtain ⟨x, t, rfl⟩ : ∃ x t, rest = x :: t := by
      cases rest with
      | nil => simp at h0
      | cons x t => exact ⟨x, t, rfl⟩
    have h2 : t.length = d := by simpa using h0
    refine Ev.step (fun k => by rw [laws_markIntS.l0]) ?_
    refine Ev.pos (by simp; omega) (Ev.pos (by omega) ?_)
    have e : (done ++ x :: t).set ((done.length : Int)).toNat c = (done ++ [c]) ++ t := by
      rw [Int.toNat_natCast]
      simp
    have hw : wrap64 ((done.length : Int) + 1) = ((done ++ [c]).length : Int) := by
      rw [List.length_append, List.length_singleton]
      exact wrap_up (n := done.length + 1) (by omega) (by omega)
    rw [e, hw]
    have := ih (done ++ [c]) t (wrap64 (c + 1)) h2 (by rw [List.length_append, List.length_singleton]; omega)
    simpa only [seqI, endI, List.append_assoc, List.singleton_append] using this
theorem markInt_ev (l : List Int) (c : Int) (hl : l.length ≤ 1048576) : Ev (fun k => laws_markIntS.f k l c) (endI l.length c, seqI l.length c) := by
  unfold laws_markIntS.f
  have := markInt_loop l.length [] l c rfl (by simpa using hl)
  simpa only [List.nil_append, List.length_nil, Int.ofNat_eq_natCast, Int.natCast_zero] using this
theorem heldInt_loop (d : Nat) : ∀ (done : List Int) (c : Int), done.length + d ≤ 1048576 →
    Ev (fun k => laws_heldIntS.l0 k (done ++ seqI d c) c (done.length : Int)) (endI d c) := by
  induction d with
  | zero =>
    intro done c h1
    refine Ev.step (fun k => by rw [laws_heldIntS.l0]) ?_
    refine Ev.neg (by simp [seqI]) ?_
    exact Ev.now _
  | succ d ih =>
    intro done c h1
    refine Ev.step (fun k => by rw [laws_heldIntS.l0]) ?_
    have hlen : (done ++ seqI (d + 1) c).length = done.length + (d + 1) := by rw [List.length_append, seqI_len]
    refine Ev.pos (by rw [hlen]; omega) (Ev.pos (by omega) ?_)
    have hr : rd (done ++ seqI (d + 1) c) (done.length : Int) = c := by
      rw [rd_at _ _ (by rw [hlen]; omega)]
      simp [seqI]
    refine Ev.pos hr ?_
    have hw : wrap64 ((done.length : Int) + 1) = ((done ++ [c]).length : Int) := by
      rw [List.length_append, List.length_singleton]
      exact wrap_up (n := done.length + 1) (by omega) (by omega)
    rw [hw]
    have := ih (done ++ [c]) (wrap64 (c + 1)) (by rw [List.length_append, List.length_singleton]; omega)
    simpa only [seqI, endI, List.append_assoc, List.singleton_append] using this
theorem heldInt_ev (n : Nat) (c : Int) (hn : n ≤ 1048576) : Ev (fun k => laws_heldIntS.f k (seqI n c) c) (endI n c) := by
  unfold laws_heldIntS.f
  have := heldInt_loop n [] c (by simpa using hn)
  simpa only [List.nil_append, List.length_nil, Int.ofNat_eq_natCast, Int.natCast_zero] using this
theorem end1_pos (n : Nat) (hn : n ≤ 1048576) : ¬ endI n 1 < 0 := by rw [endI_at n 1 (by omega) (by omega)]; omega
end Go.Proofs.Ytpbngmkhpcgpkaa.P
