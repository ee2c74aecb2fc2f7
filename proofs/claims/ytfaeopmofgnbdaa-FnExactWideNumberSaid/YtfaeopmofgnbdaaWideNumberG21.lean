/- The law FnExactWideNumber answers true for all arguments: both sides answer alike, and the walk of the law holds over it. -/
import Derived.Test.YtfaeopmofgnbdaaWideNumberG19
import Derived.Test.YtfaeopmofgnbdaaWideNumberG20
import Derived.Test.YtfaeopmofgnbdaaWideNumberG16
namespace Go.Proofs.Ytfaeopmofgnbdaa.P
open Go.RowKit Go.Proofs.YtfaeopmofgnbdaaW.PrintWords Go.Proofs.YtfaeopmofgnbdaaW.PrintLast Go.Proofs.YtfaeopmofgnbdaaW.PrintMore
set_option linter.unusedVariables false
set_option maxHeartbeats 1000000 in
theorem Law_FnExactWideNumber (a0_0 : Int) (A0_1 : Option Addr) (ca0_1 : Nat) (l0_1 : List (S48)) (a1 : Int) (w : World) (hr0_1 : Kd.C k48 w A0_1 l0_1.length l0_1) (hc0_1 : l0_1.length ≤ ca0_1) (w0_0 : (Lit.int .i64 a0_0).wf = true) (w0_1 : FitP l0_1) (w1 : (Lit.int .i64 a1).wf = true) :
    Calls Try.prog 3 #[.agg #[.int .i64 a0_0, .slice A0_1 l0_1.length ca0_1], .int .i64 a1] w fun e w' => e = .returned (.bool true) ∧ Below w.heap.size w w' := by
  obtain ⟨t0, h0, m0⟩ := sz_graph a0_0 l0_1 w0_1.1
  by_cases c0 : t0 < 0
  · exact laws_FnExactWideNumber.exit0 a0_0 A0_1 ca0_1 l0_1 a1 t0 w hr0_1 hc0_1 c0 h0
  have hn0 := m0.resolve_left c0
  obtain ⟨q0, q1, es, ei⟩ := Both_FnExactWideNumber a0_0 l0_1 a1 w0_0 w0_1 w1 hn0
  obtain ⟨k1, h1⟩ := Ev.rounds (toGraph_ev a0_0 l0_1 hn0)
  obtain ⟨k2, h2⟩ := Ev.rounds (es)
  obtain ⟨k3, h3⟩ := Ev.rounds (ei)
  obtain ⟨k4, h4⟩ := Ev.rounds (eqGraph_ev a0_0 l0_1 hn0)
  exact laws_FnExactWideNumber.walk a0_0 A0_1 ca0_1 l0_1 a1 k1 k2 k3 k4 t0 q0 q1 w hr0_1 hc0_1 c0 h0 h1 h2 h3 h4 
end Go.Proofs.Ytfaeopmofgnbdaa.P
