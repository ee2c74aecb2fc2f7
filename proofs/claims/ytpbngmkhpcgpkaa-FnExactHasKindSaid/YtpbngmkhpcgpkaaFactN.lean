/- The neighbours of a node, as both sides list them. -/
import Derived.Test.YtpbngmkhpcgpkaaFactH
import Derived.Test.YtpbngmkhpcgpkaaPx18
import Derived.Test.YtpbngmkhpcgpkaaPx19
namespace Go.Proofs.Ytpbngmkhpcgpkaa.P
open Go.RowKit Go.Proofs.YtpbngmkhpcgpkaaW.PrintWords Go.Proofs.YtpbngmkhpcgpkaaW.PrintLast Go.Proofs.YtpbngmkhpcgpkaaW.PrintMore
set_option linter.unusedVariables false

def nbs (l : List S68) (x : Int) : Nat → Int → List Int
  | 0, _ => []
  | d + 1, y => (if hasP l x y = true then [y] else []) ++ nbs l x d (y + 1)
theorem nbs_len (l : List S68) (x : Int) (d : Nat) : ∀ y, (nbs l x d y).length ≤ d := by
  induction d with
  | zero => intro y; simp [nbs]
  | succ d ih =>
    intro y
    have := ih (y + 1)
    simp only [nbs, List.length_append]
    split <;> simp only [List.length_nil, List.length_cons] <;> omega
theorem hasP_self (l : List S68) (x : Int) (hu : ∀ e ∈ l, e.f0 < e.f1) : hasP l x x = false := by
  unfold hasP
  rw [List.any_eq_false]
  intro e he
  have := hu e he
  simp only [Bool.or_eq_true, Bool.and_eq_true, decide_eq_true_eq]
  omega
section
variable (a : Int) (l : List S68) (hl : l.length ≤ 1048576) (h8 : a ≤ 8) (x : Int)
include hl h8
theorem sNbs_loop (d : Nat) : ∀ (y : Int) (acc : List Int), (a - y).toNat = d → 0 ≤ y → acc.length + d ≤ 1000 →
    Ev (fun k => spec_l2Neighbors.l0 k x acc y a l) (acc ++ nbs l x d y) := by
  induction d with
  | zero =>
    intro y acc h0 h1 h2
    refine Ev.step (fun k => by rw [spec_l2Neighbors.l0]) (Ev.neg (by omega) ?_)
    simp only [nbs, List.append_nil]
    exact Ev.now _
  | succ d ih =>
    intro y acc h0 h1 h2
    refine Ev.step (fun k => by rw [spec_l2Neighbors.l0]) (Ev.pos (by omega) (Ev.bind (near_ev a l x y hl) ?_))
    have hw : wrap64 (y + 1) = y + 1 := wrap_nat (by omega) (by omega)
    rw [hw, nbs]
    by_cases c : hasP l x y = true
    · refine Ev.pos c (Ev.pos (by omega) ?_)
      rw [if_pos c, ← List.append_assoc]
      exact ih (y + 1) _ (by omega) (by omega) (by rw [List.length_append, List.length_singleton]; omega)
    · rw [if_neg c, List.nil_append]
      exact Ev.neg c (ih (y + 1) acc (by omega) (by omega) (by omega))
variable (hu : ∀ e ∈ l, e.f0 < e.f1)
include hu
theorem iNbs_loop (d : Nat) : ∀ (y : Int) (acc : List Int), (a - y).toNat = d → 0 ≤ y → acc.length + d ≤ 1000 →
    Ev (fun k => impl_Graph_neighbors.l0 k x acc a y a l) (acc ++ nbs l x d y) := by
  induction d with
  | zero =>
    intro y acc h0 h1 h2
    refine Ev.step (fun k => by rw [impl_Graph_neighbors.l0]) (Ev.neg (by omega) ?_)
    simp only [nbs, List.append_nil]
    exact Ev.now _
  | succ d ih =>
    intro y acc h0 h1 h2
    refine Ev.step (fun k => by rw [impl_Graph_neighbors.l0]) (Ev.pos (by omega) ?_)
    have hw : wrap64 (y + 1) = y + 1 := wrap_nat (by omega) (by omega)
    rw [hw, nbs]
    by_cases cx : y = x
    · have c : ¬ hasP l x y = true := by rw [cx, hasP_self l x hu]; decide
      rw [if_neg c, List.nil_append]
      exact Ev.pos cx (ih (y + 1) acc (by omega) (by omega) (by omega))
    · refine Ev.neg cx (Ev.bind (has_ev a l x y hl hu) ?_)
      by_cases c : hasP l x y = true
      · refine Ev.pos c (Ev.pos (by omega) ?_)
        rw [if_pos c, ← List.append_assoc]
        exact ih (y + 1) _ (by omega) (by omega) (by rw [List.length_append, List.length_singleton]; omega)
      · rw [if_neg c, List.nil_append]
        exact Ev.neg c (ih (y + 1) acc (by omega) (by omega) (by omega))
end
theorem l2Neighbors_ev (a : Int) (l : List S68) (x : Int) (hl : l.length ≤ 1048576) (h8 : a ≤ 8) : Ev (fun k => spec_l2Neighbors.f k a l x) (nbs l x a.toNat 0) := by
  unfold spec_l2Neighbors.f
  have := sNbs_loop a l hl h8 x a.toNat 0 [] (by omega) (by omega) (by simp; omega)
  simpa only [List.nil_append] using this
theorem neighbors_ev (a : Int) (l : List S68) (x : Int) (hl : l.length ≤ 1048576) (h8 : a ≤ 8) (hu : ∀ e ∈ l, e.f0 < e.f1) : Ev (fun k => impl_Graph_neighbors.f k a l x) (nbs l x a.toNat 0) := by
  unfold impl_Graph_neighbors.f
  have := iNbs_loop a l hl h8 x hu a.toNat 0 [] (by omega) (by omega) (by simp; omega)
  simpa only [List.nil_append] using this
def nbsR (a : Int) (l : List S68) (x : Int) : List Int × Bool := if okG a l = true ∧ (0 ≤ x ∧ x ≤ a - 1) then (nbs l x a.toNat 0, true) else ([], false)
theorem nbsR_len (a : Int) (l : List S68) (x : Int) : (nbsR a l x).1.length ≤ 1048576 := by
  unfold nbsR
  split
  · rename_i h
    have := okG_all h.1
    have := nbs_len l x a.toNat 0
    show (nbs l x a.toNat 0).length ≤ _
    omega
  · exact Nat.zero_le _
theorem spec_Nbs_ev (a : Int) (l : List S68) (x : Int) (hl : l.length ≤ 1048576) : Ev (fun k => spec_NeighborsOf.f k a l x) (nbsR a l x) := by
  unfold spec_NeighborsOf.f nbsR
  refine Ev.bind (l2Good_ev a l hl) ?_
  by_cases h : okG a l = true
  · have h1 := okG_all h
    have hw : wrap64 (a - 1) = a - 1 := wrap_nat (by omega) (by omega)
    rw [hw]
    refine Ev.pos h (Ev.bindo (in_at _ _ _) ?_)
    by_cases c : 0 ≤ x ∧ x ≤ a - 1
    · rw [if_pos ⟨h, c⟩]
      exact Ev.pos (by simp [c]) (Ev.bind (l2Neighbors_ev a l x hl h1.2.1) (Ev.now _))
    · rw [if_neg (fun hh => c hh.2)]
      exact Ev.neg (by simp; omega) (Ev.now _)
  · rw [if_neg (fun hh => h hh.1)]
    exact Ev.neg h (Ev.now _)
theorem impl_Nbs_ev (a : Int) (l : List S68) (x : Int) (hl : l.length ≤ 1048576) : Ev (fun k => impl_NeighborsOf.f k a l x) (nbsR a l x) := by
  unfold impl_NeighborsOf.f nbsR
  refine Ev.bind (impl_IsGraph_ev a l hl) ?_
  by_cases h : okG a l = true
  · have h1 := okG_all h
    have hw : wrap64 (a - 1) = a - 1 := wrap_nat (by omega) (by omega)
    rw [hw]
    refine Ev.pos h (Ev.bindo (between_at _ _ _) ?_)
    by_cases c : 0 ≤ x ∧ x ≤ a - 1
    · rw [if_pos ⟨h, c⟩]
      exact Ev.pos (by simp [c]) (Ev.bind (neighbors_ev a l x hl h1.2.1 (fun e he => (h1.2.2 e he).2.1)) (Ev.now _))
    · rw [if_neg (fun hh => c hh.2)]
      exact Ev.neg (by simp; omega) (Ev.now _)
  · rw [if_neg (fun hh => h hh.1)]
    exact Ev.neg h (Ev.now _)
end Go.Proofs.Ytpbngmkhpcgpkaa.P
