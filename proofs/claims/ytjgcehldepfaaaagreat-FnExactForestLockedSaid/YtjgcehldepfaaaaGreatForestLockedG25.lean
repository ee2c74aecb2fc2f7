/- The law FnExactForestLocked answers true for all arguments: both sides answer alike, and the walk of the law holds fL it. -/
import Derived.Test.YtjgcehldepfaaaaGreatForestLockedG21
import Derived.Test.YtjgcehldepfaaaaGreatForestLockedG24
import Derived.Test.YtjgcehldepfaaaaGreatForestLockedG18
namespace Go.Proofs.YtjgcehldepfaaaaGreat.P
open Go.RowKit YtjgcehldepfaaaaGreatW.PrintWords Go.Proofs.YtjgcehldepfaaaaGreatW.PrintLast Go.Proofs.YtjgcehldepfaaaaGreatW.PrintMore
set_option linter.unusedVariables false
set_option maxHeartbeats 1000000 in
theorem Law_FnExactForestLocked (a0_0 : Int) (A0_1 : Option Addr) (ca0_1 : Nat) (l0_1 : List (S63)) (A1 : Option Addr) (ca1 : Nat) (l1 : List Int) (w : World) (hr0_1 : Kd.C k63 w A0_1 l0_1.length l0_1) (hc0_1 : l0_1.length ≤ ca0_1) (hr1 : Kd.C (Kd.int .i64) w A1 l1.length l1) (hc1 : l1.length ≤ ca1) (w0_0 : (Lit.int .i64 a0_0).wf = true) (w0_1 : ke l0_1) (w1 : kg l1) :
    Calls Tryz.prog 3 #[.agg #[.int .i64 a0_0, .slice A0_1 l0_1.length ca0_1], .slice A1 l1.length ca1] w fun e w' => e = .returned (.bool true) ∧ Below w.heap.size w w' := by
  by_cases c0 : 1048576 < (l1.length : Int)
  · exact pS a0_0 A0_1 ca0_1 l0_1 A1 ca1 l1 w hr0_1 hc0_1 hr1 hc1 c0
  have hl1 : l1.length ≤ 1048576 := by omega
  obtain ⟨t0, h0, m1⟩ := nh a0_0 l0_1 w0_1.1
  by_cases c1 : t0 < 0
  · exact pR a0_0 A0_1 ca0_1 l0_1 A1 ca1 l1 t0 w hr0_1 hc0_1 hr1 hc1 c0 c1 h0
  have hn0 := m1.resolve_left c1
  obtain ⟨q0, q1, es, ei, hb1⟩ := tT a0_0 l0_1 l1 w0_0 w0_1 w1 hn0 hl1
  obtain ⟨k1, h1⟩ := Ev.rounds (nb a0_0 l0_1 hn0)
  obtain ⟨k2, h2⟩ := Ev.rounds (m8 l1 hl1)
  obtain ⟨k3, h3⟩ := Ev.rounds (es)
  obtain ⟨k4, h4⟩ := Ev.rounds (ei)
  obtain ⟨k5, h5⟩ := Ev.rounds (mm q0 hb1)
  obtain ⟨k6, h6⟩ := Ev.rounds (ss a0_0 l0_1 hn0)
  obtain ⟨k7, h7⟩ := Ev.rounds (mm l1 hl1)
  obtain ⟨kk0, mk0_0, h8, nkk0, pkk0⟩ := pB a0_0 l0_1 hn0
  obtain ⟨kk1, mk1_0, k9, h9, nkk1, pkk1⟩ := pA l1 kk0 hl1 ⟨by omega, pkk0⟩
  obtain ⟨kk2, mk2_0, k10, h10, k11, h11, nkk2⟩ := pz q0 hb1
  exact pQ a0_0 A0_1 ca0_1 l0_1 A1 ca1 l1 k1 k2 k3 k4 k5 k6 k7 k9 k10 k11 t0 q0 q1 kk0 mk0_0 kk1 mk1_0 kk2 mk2_0 w hr0_1 hc0_1 hr1 hc1 c0 c1 h0 h1 h2 h3 h4 h5 h6 h7 h8 h9 h10 h11 nkk1 nkk2
end Go.Proofs.YtjgcehldepfaaaaGreat.P
