/- The law FnExactCliqueGraph answers true for every graph that comes in: both sides list the same missing pairs in the same order. -/
import Derived.Test.YtpbngmkhpcgpkaaFactH
import Derived.Test.YtpbngmkhpcgpkaaPx15
namespace Go.Proofs.Ytpbngmkhpcgpkaa.P
open Go.RowKit Go.Proofs.YtpbngmkhpcgpkaaW.PrintWords Go.Proofs.YtpbngmkhpcgpkaaW.PrintLast Go.Proofs.YtpbngmkhpcgpkaaW.PrintMore
set_option linter.unusedVariables false

def rowC (l : List S68) (x : Int) : Nat → Int → List S68
  | 0, _ => []
  | d + 1, y => (if hasP l x y = true then [] else [⟨x, y⟩]) ++ rowC l x d (y + 1)
def allC (l : List S68) (a : Int) : Nat → Int → List S68
  | 0, _ => []
  | d + 1, x => rowC l x (a - (x + 1)).toNat (x + 1) ++ allC l a d (x + 1)
theorem rowC_len (l : List S68) (x : Int) (d : Nat) : ∀ y, (rowC l x d y).length ≤ d := by
  induction d with
  | zero => intro y; simp [rowC]
  | succ d ih =>
    intro y
    have := ih (y + 1)
    simp only [rowC, List.length_append]
    split <;> simp only [List.length_nil, List.length_cons] <;> omega
theorem allC_len (l : List S68) (a : Int) (h8 : a ≤ 8) (d : Nat) : ∀ x, 0 ≤ x → (allC l a d x).length ≤ 8 * d := by
  induction d with
  | zero => intro x _; simp [allC]
  | succ d ih =>
    intro x hx
    have h1 := ih (x + 1) (by omega)
    have h2 := rowC_len l x (a - (x + 1)).toNat (x + 1)
    simp only [allC, List.length_append]
    omega
section
variable (a : Int) (l : List S68) (hl : l.length ≤ 1048576) (h8 : a ≤ 8) (s : Int)
include hl h8
theorem sClique_row {R : Int × List S68 × Bool} (x : Int) (hx : 0 ≤ x) (d : Nat) : ∀ (y : Int) (acc : List S68), (a - y).toNat = d → 0 ≤ y → acc.length + d ≤ 1000 →
    Ev (fun k => spec_CliqueGraph.l0 k (wrap64 (x + 1)) a l s (acc ++ rowC l x d y)) R → Ev (fun k => spec_CliqueGraph.l1 k x y a l s acc) R := by
  induction d with
  | zero =>
    intro y acc h0 h1 h2 h
    refine Ev.step (fun k => by rw [spec_CliqueGraph.l1]) (Ev.neg (by omega) ?_)
    simpa [rowC] using h
  | succ d ih =>
    intro y acc h0 h1 h2 h
    refine Ev.step (fun k => by rw [spec_CliqueGraph.l1]) (Ev.pos (by omega) (Ev.bind (near_ev a l x y hl) ?_))
    have hw : wrap64 (y + 1) = y + 1 := wrap_nat (by omega) (by omega)
    rw [hw]
    by_cases c : hasP l x y = true
    · refine Ev.pos c (ih (y + 1) acc (by omega) (by omega) (by omega) ?_)
      simpa only [rowC, if_pos c, List.nil_append] using h
    · refine Ev.neg c (Ev.pos (by omega) (ih (y + 1) _ (by omega) (by omega) (by rw [List.length_append, List.length_singleton]; omega) ?_))
      simpa only [rowC, if_neg c, List.append_assoc] using h
theorem sClique_all (d : Nat) : ∀ (x : Int) (acc : List S68), (a - x).toNat = d → 0 ≤ x → acc.length + 8 * d ≤ 900 →
    Ev (fun k => spec_CliqueGraph.l0 k x a l s acc) (s, acc ++ allC l a d x, true) := by
  induction d with
  | zero =>
    intro x acc h0 h1 h2
    refine Ev.step (fun k => by rw [spec_CliqueGraph.l0]) (Ev.neg (by omega) ?_)
    simp only [allC, List.append_nil]
    exact Ev.now _
  | succ d ih =>
    intro x acc h0 h1 h2
    refine Ev.step (fun k => by rw [spec_CliqueGraph.l0]) (Ev.pos (by omega) ?_)
    have hw : wrap64 (x + 1) = x + 1 := wrap_nat (by omega) (by omega)
    have hlen := rowC_len l x (a - (x + 1)).toNat (x + 1)
    rw [hw]
    refine sClique_row a l hl h8 s x h1 _ (x + 1) acc rfl (by omega) (by omega) ?_
    rw [hw, allC, ← List.append_assoc]
    exact ih (x + 1) _ (by omega) (by omega) (by rw [List.length_append]; omega)
variable (hu : ∀ e ∈ l, e.f0 < e.f1)
include hu
theorem iClique_row {R : Int × List S68 × Bool} (x : Int) (hx : 0 ≤ x) (d : Nat) : ∀ (y : Int) (acc : List S68), (a - y).toNat = d → 0 ≤ y → acc.length + d ≤ 1000 →
    Ev (fun k => impl_CliqueGraph.l0 k a (wrap64 (x + 1)) a l s (acc ++ rowC l x d y)) R → Ev (fun k => impl_CliqueGraph.l1 k x y a x a l s acc) R := by
  induction d with
  | zero =>
    intro y acc h0 h1 h2 h
    refine Ev.step (fun k => by rw [impl_CliqueGraph.l1]) (Ev.neg (by omega) ?_)
    simpa [rowC] using h
  | succ d ih =>
    intro y acc h0 h1 h2 h
    refine Ev.step (fun k => by rw [impl_CliqueGraph.l1]) (Ev.pos (by omega) (Ev.bind (has_ev a l x y hl hu) ?_))
    have hw : wrap64 (y + 1) = y + 1 := wrap_nat (by omega) (by omega)
    rw [hw]
    by_cases c : hasP l x y = true
    · refine Ev.pos c (ih (y + 1) acc (by omega) (by omega) (by omega) ?_)
      simpa only [rowC, if_pos c, List.nil_append] using h
    · refine Ev.neg c (Ev.pos (by omega) (ih (y + 1) _ (by omega) (by omega) (by rw [List.length_append, List.length_singleton]; omega) ?_))
      simpa only [rowC, if_neg c, List.append_assoc] using h
theorem iClique_all (d : Nat) : ∀ (x : Int) (acc : List S68), (a - x).toNat = d → 0 ≤ x → acc.length + 8 * d ≤ 900 →
    Ev (fun k => impl_CliqueGraph.l0 k a x a l s acc) (s, acc ++ allC l a d x, true) := by
  induction d with
  | zero =>
    intro x acc h0 h1 h2
    refine Ev.step (fun k => by rw [impl_CliqueGraph.l0]) (Ev.neg (by omega) ?_)
    simp only [allC, List.append_nil]
    exact Ev.now _
  | succ d ih =>
    intro x acc h0 h1 h2
    refine Ev.step (fun k => by rw [impl_CliqueGraph.l0]) (Ev.pos (by omega) ?_)
    have hw : wrap64 (x + 1) = x + 1 := wrap_nat (by omega) (by omega)
    have hlen := rowC_len l x (a - (x + 1)).toNat (x + 1)
    rw [hw]
    refine iClique_row a l hl h8 s hu x h1 _ (x + 1) acc rfl (by omega) (by omega) ?_
    rw [hw, allC, ← List.append_assoc]
    exact ih (x + 1) _ (by omega) (by omega) (by rw [List.length_append]; omega)
end
def cliqueR (a : Int) (l : List S68) : Int × List S68 × Bool := if okG a l = true then (a, allC l a a.toNat 0, true) else (0, [], false)
theorem cliqueR_len (a : Int) (l : List S68) : (cliqueR a l).2.1.length ≤ 1048576 := by
  unfold cliqueR
  split
  · rename_i h
    have := okG_all h
    have := allC_len l a this.2.1 a.toNat 0 (by omega)
    show (allC l a a.toNat 0).length ≤ _
    omega
  · exact Nat.zero_le _
theorem spec_Clique_ev (a : Int) (l : List S68) (hl : l.length ≤ 1048576) : Ev (fun k => spec_CliqueGraph.f k a l) (cliqueR a l) := by
  unfold spec_CliqueGraph.f cliqueR
  refine Ev.bind (l2Good_ev a l hl) ?_
  by_cases h : okG a l = true
  · have h1 := okG_all h
    rw [if_pos h]
    refine Ev.pos h ?_
    have := sClique_all a l hl h1.2.1 a a.toNat 0 [] (by omega) (by omega) (by simp; omega)
    simpa only [List.nil_append] using this
  · rw [if_neg h]
    exact Ev.neg h (Ev.now _)
theorem impl_Clique_ev (a : Int) (l : List S68) (hl : l.length ≤ 1048576) : Ev (fun k => impl_CliqueGraph.f k a l) (cliqueR a l) := by
  unfold impl_CliqueGraph.f cliqueR
  refine Ev.bind (impl_IsGraph_ev a l hl) ?_
  by_cases h : okG a l = true
  · have h1 := okG_all h
    rw [if_pos h]
    refine Ev.pos h ?_
    have := iClique_all a l hl h1.2.1 a (fun e he => (h1.2.2 e he).2.1) a.toNat 0 [] (by omega) (by omega) (by simp; omega)
    simpa only [List.nil_append] using this
  · rw [if_neg h]
    exact Ev.neg h (Ev.now _)
theorem Pure_FnExactCliqueGraph (a : Int) (l : List S68) (ha : (Lit.int .i64 a).wf = true) (hl : FitP l) : ∃ k, laws_FnExactCliqueGraph.f k a l = some true := by
  refine Ev.rounds (g := fun k => laws_FnExactCliqueGraph.f k a l) ?_
  unfold laws_FnExactCliqueGraph.f
  obtain ⟨t, h1, h2⟩ := sz_graph a l hl.1
  refine Ev.bindo h1 ?_
  by_cases h : t < 0
  · exact Ev.pos h (Ev.now _)
  · refine Ev.neg h ?_
    have hn : l.length ≤ 1048576 := h2.resolve_left h
    have hs := spec_Clique_ev a l hn
    have hi := impl_Clique_ev a l hn
    have hr := cliqueR_len a l
    generalize cliqueR a l = R at hs hi hr
    obtain ⟨r0, r1, r2⟩ := R
    refine Ev.bind (toGraph_ev a l hn) (Ev.bind hs (Ev.bind (toGraph_ev a l hn) (Ev.bind hi ?_)))
    refine Ev.bind (eqGraph_ev r0 r1 hr) (Ev.pos rfl ?_)
    refine Ev.step (fun k => by rw [laws_FnExactCliqueGraph.j0]) (Ev.neg (by simp) ?_)
    refine Ev.bind (toGraph_ev a l hn) (Ev.bind (eqGraph_ev a l hn) (Ev.pos rfl ?_))
    refine Ev.bindo (markGraph_at a l 1) (Ev.neg (mark1_pos l hn) ?_)
    refine Ev.bind (eqGraph_ev r0 r1 hr) (Ev.pos rfl ?_)
    refine Ev.step (fun k => by rw [laws_FnExactCliqueGraph.j1]) (Ev.neg (by simp) ?_)
    refine Ev.bindo (markGraph_at r0 r1 1) (Ev.bindo (heldGraph_at r0 r1 hr) (Ev.neg (mark1_pos r1 hr) (Ev.pos rfl ?_)))
    refine Ev.bind (toGraph_ev a l hn) (Ev.bind hi (Ev.bind (eqGraph_ev r0 r1 hr) (Ev.pos rfl ?_)))
    refine Ev.step (fun k => by rw [laws_FnExactCliqueGraph.j2]) (Ev.neg (by simp) ?_)
    exact Ev.bindo (heldGraph_at r0 r1 hr) (Ev.neg (mark1_pos r1 hr) (Ev.pos rfl (Ev.now _)))
end Go.Proofs.Ytpbngmkhpcgpkaa.P
