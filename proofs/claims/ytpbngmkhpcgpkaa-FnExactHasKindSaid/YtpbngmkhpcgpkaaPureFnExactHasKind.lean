/- The law FnExactHasKind answers true for all arguments. -/
import Derived.Test.YtpbngmkhpcgpkaaFactK
import Derived.Test.YtpbngmkhpcgpkaaPx36
import Derived.Test.YtpbngmkhpcgpkaaPx38
import Derived.Test.YtpbngmkhpcgpkaaPx39
namespace Go.Proofs.Ytpbngmkhpcgpkaa.P
open Go.RowKit Go.Proofs.YtpbngmkhpcgpkaaW.PrintWords Go.Proofs.YtpbngmkhpcgpkaaW.PrintLast Go.Proofs.YtpbngmkhpcgpkaaW.PrintMore
set_option linter.unusedVariables false

def kindI (a : Int) (e : List S68) (c : Int) (l : List Int) : Bool := if c = 1 then coverI e l else if c = 2 then cliN e l l.length 0 else domN e l a.toNat 0
theorem l4Has_ev (a : Int) (e : List S68) (c : Int) (l : List Int) (he : e.length ≤ 1048576) (hl : l.length ≤ 1048576) (h8 : a ≤ 8) : Ev (fun k => spec_l4Has.f k a e c l) (kindI a e c l) := by
  unfold spec_l4Has.f kindI
  by_cases c1 : c = 1
  · rw [if_pos c1]
    exact Ev.pos c1 (cover_loop a e l he hl e.length 0 (by omega) (Nat.zero_le _))
  · rw [if_neg c1]
    by_cases c2 : c = 2
    · rw [if_pos c2]
      exact Ev.neg c1 (Ev.pos c2 (sCli_loop a e l he hl l.length 0 (by omega) (Nat.zero_le _)))
    · rw [if_neg c2]
      exact Ev.neg c1 (Ev.neg c2 (sDom_loop a e l he hl h8 a.toNat 0 (by omega) (by omega)))
theorem hasKind_ev (a : Int) (e : List S68) (c : Int) (l : List Int) (he : e.length ≤ 1048576) (hl : l.length ≤ 1048576) (hg : okG a e = true) (hr : risI 0 (wrap64 (a - 1)) none l = true) : Ev (fun k => impl_Graph_hasKind.f k a e c (bagI 0 l)) (kindI a e c l) := by
  have h1 := okG_all hg
  have hu : ∀ s ∈ e, s.f0 < s.f1 := fun s hs => (h1.2.2 s hs).2.1
  have hx := set_small hg hr
  have hw : wrap64 (a - 1) = a - 1 := wrap_nat (by omega) (by omega)
  unfold impl_Graph_hasKind.f kindI
  by_cases c1 : c = 1
  · rw [if_pos c1]
    refine Ev.pos c1 (Ev.bindo (a := allI a) ?_ (Ev.bindo (cover_free hg hx) (Ev.now _)))
    unfold impl_Graph_all.f
    rw [if_pos h1.1]
    rfl
  · rw [if_neg c1]
    by_cases c2 : c = 2
    · rw [if_pos c2]
      refine Ev.neg c1 (Ev.pos c2 (Ev.bind (bag_list_ev _) ?_))
      rw [bag_list_self (risI_wide (by omega) l none hr)]
      exact iCli_loop a e l he hl hu l.length 0 (by omega) (Nat.zero_le _)
    · rw [if_neg c2]
      exact Ev.neg c1 (Ev.neg c2 (iDom_loop a e l he h1.2.1 hg hx a.toNat 0 (by omega) (by omega)))
def kindR (a : Int) (e : List S68) (c : Int) (l : List Int) : Bool × Bool :=
  if (okG a e = true ∧ (1 ≤ c ∧ c ≤ 3)) ∧ risI 0 (wrap64 (a - 1)) none l = true then (kindI a e c l, true) else (false, false)
theorem kind_at (c : Int) : impl_isKind.f c = some (decide (1 ≤ c) && decide (c ≤ 3)) := by
  unfold impl_isKind.f
  rw [between_at, Option.bind_some]
theorem l4Kind_at (c : Int) : spec_l4Kind.f c = some (decide (1 ≤ c) && decide (c ≤ 3)) := by
  unfold spec_l4Kind.f
  rw [in_at, Option.bind_some]
theorem spec_HasKind_ev (a : Int) (e : List S68) (c : Int) (l : List Int) (he : e.length ≤ 1048576) (hl : l.length ≤ 1048576) : Ev (fun k => spec_HasKind.f k a e c l) (kindR a e c l) := by
  unfold spec_HasKind.f spec_l4Good.f kindR
  by_cases h : okG a e = true
  · by_cases hc : 1 ≤ c ∧ c ≤ 3
    · refine Ev.bind (Ev.bind (l2Good_ev a e he) (Ev.pos h (Ev.bindo (l4Kind_at c) (Ev.now _)))) (Ev.pos (by simp [hc]) (Ev.bind (l2Set_ev a e l hl) ?_))
      by_cases hr : risI 0 (wrap64 (a - 1)) none l = true
      · rw [if_pos (show (okG a e = true ∧ (1 ≤ c ∧ c ≤ 3)) ∧ risI 0 (wrap64 (a - 1)) none l = true from ⟨⟨h, hc⟩, hr⟩)]
        exact Ev.pos hr (Ev.bind (l4Has_ev a e c l he hl (okG_all h).2.1) (Ev.now _))
      · rw [if_neg (show ¬ ((okG a e = true ∧ (1 ≤ c ∧ c ≤ 3)) ∧ risI 0 (wrap64 (a - 1)) none l = true) from fun hh => hr hh.2)]
        exact Ev.neg hr (Ev.now _)
    · rw [if_neg (show ¬ ((okG a e = true ∧ (1 ≤ c ∧ c ≤ 3)) ∧ risI 0 (wrap64 (a - 1)) none l = true) from fun hh => hc hh.1.2)]
      exact Ev.bind (Ev.bind (l2Good_ev a e he) (Ev.pos h (Ev.bindo (l4Kind_at c) (Ev.now _)))) (Ev.neg (by simp; omega) (Ev.now _))
  · rw [if_neg (show ¬ ((okG a e = true ∧ (1 ≤ c ∧ c ≤ 3)) ∧ risI 0 (wrap64 (a - 1)) none l = true) from fun hh => h hh.1.1)]
    exact Ev.bind (Ev.bind (l2Good_ev a e he) (Ev.neg h (Ev.now _))) (Ev.neg (by decide) (Ev.now _))
theorem impl_HasKind_ev (a : Int) (e : List S68) (c : Int) (l : List Int) (he : e.length ≤ 1048576) (hl : l.length ≤ 1048576) : Ev (fun k => impl_HasKind.f k a e c l) (kindR a e c l) := by
  unfold impl_HasKind.f impl_isSetCase.f kindR
  by_cases h : okG a e = true
  · by_cases hc : 1 ≤ c ∧ c ≤ 3
    · refine Ev.bind (Ev.bind (impl_IsGraph_ev a e he) (Ev.pos h (Ev.bindo (kind_at c) (Ev.pos (by simp [hc]) (Ev.bind (rising_ev l a hl) (Ev.now _)))))) ?_
      by_cases hr : risI 0 (wrap64 (a - 1)) none l = true
      · rw [if_pos (show (okG a e = true ∧ (1 ≤ c ∧ c ≤ 3)) ∧ risI 0 (wrap64 (a - 1)) none l = true from ⟨⟨h, hc⟩, hr⟩)]
        exact Ev.pos hr (Ev.bind (bagOf_ev l hl (set_small h hr)) (Ev.bind (hasKind_ev a e c l he hl h hr) (Ev.now _)))
      · rw [if_neg (show ¬ ((okG a e = true ∧ (1 ≤ c ∧ c ≤ 3)) ∧ risI 0 (wrap64 (a - 1)) none l = true) from fun hh => hr hh.2)]
        exact Ev.neg hr (Ev.now _)
    · rw [if_neg (show ¬ ((okG a e = true ∧ (1 ≤ c ∧ c ≤ 3)) ∧ risI 0 (wrap64 (a - 1)) none l = true) from fun hh => hc hh.1.2)]
      exact Ev.bind (Ev.bind (impl_IsGraph_ev a e he) (Ev.pos h (Ev.bindo (kind_at c) (Ev.neg (by simp; omega) (Ev.now _))))) (Ev.neg (by decide) (Ev.now _))
  · rw [if_neg (show ¬ ((okG a e = true ∧ (1 ≤ c ∧ c ≤ 3)) ∧ risI 0 (wrap64 (a - 1)) none l = true) from fun hh => h hh.1.1)]
    exact Ev.bind (Ev.bind (impl_IsGraph_ev a e he) (Ev.neg h (Ev.now _))) (Ev.neg (by decide) (Ev.now _))
theorem Pure_FnExactHasKind (a : Int) (l : List S68) (c : Int) (s : List Int) (ha : (Lit.int .i64 a).wf = true) (hl : FitP l) (hc0 : (Lit.int .i64 c).wf = true) (hs : FitL s) : ∃ k, laws_FnExactHasKind.f k a l c s = some true := by
  refine Ev.rounds (g := fun k => laws_FnExactHasKind.f k a l c s) ?_
  unfold laws_FnExactHasKind.f
  by_cases h0 : (s.length : Int) > 1048576
  · exact Ev.pos h0 (Ev.now _)
  refine Ev.neg h0 ?_
  have hm : s.length ≤ 1048576 := by omega
  obtain ⟨t, h1, h2⟩ := sz_graph a l hl.1
  refine Ev.bindo h1 ?_
  by_cases h : t < 0
  · exact Ev.pos h (Ev.now _)
  · refine Ev.neg h ?_
    have hn : l.length ≤ 1048576 := h2.resolve_left h
    refine Ev.bind (toGraph_ev a l hn) (Ev.bind (toIntS_ev s hm) (Ev.bind (spec_HasKind_ev a l c s hn hm) (Ev.bind (toGraph_ev a l hn) (Ev.bind (toIntS_ev s hm) (Ev.bind (impl_HasKind_ev a l c s hn hm) ?_)))))
    refine Ev.neg (by simp) (Ev.step (fun k => by rw [laws_FnExactHasKind.j0]) (Ev.neg (by simp) ?_))
    exact Ev.bind (toGraph_ev a l hn) (Ev.bind (eqGraph_ev a l hn) (Ev.pos rfl (Ev.bind (toIntS_ev s hm) (Ev.bind (eqIntS_ev s hm) (Ev.pos rfl (Ev.now _))))))
end Go.Proofs.Ytpbngmkhpcgpkaa.P
