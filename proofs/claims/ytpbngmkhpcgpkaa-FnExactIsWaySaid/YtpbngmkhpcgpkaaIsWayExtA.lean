/- Contracts of small functions of the laws over the small array [2]int: toIntA2 gives back its argument, eqIntA2 compares, heldIntA2S reads; for every world. -/
import Derived.Test.YtpbngmkhpcgpkaaIsWayPx0
import Derived.Handy
namespace Go.Proofs.Ytpbngmkhpcgpkaa.P
open Go.RowKit Go.Proofs.YtpbngmkhpcgpkaaW.PrintWords Go.Proofs.YtpbngmkhpcgpkaaW.PrintLast Go.Proofs.YtpbngmkhpcgpkaaW.PrintMore
set_option linter.unusedVariables false
set_option linter.unusedSimpArgs false

def laws_toIntA2.f (a0_0 : Int) (a0_1 : Int) : Option (Int × Int) := some (a0_0, a0_1)
set_option maxHeartbeats 1000000 in
theorem laws_toIntA2.calls (a0_0 : Int) (a0_1 : Int) (r1 : Int) (r2 : Int) (w : World) (h : laws_toIntA2.f a0_0 a0_1 = some (r1, r2)) :
    Calls Try.prog 95 #[.agg #[.int .i64 a0_0, .int .i64 a0_1]] w fun e w' => e = .returned (.agg #[.int .i64 r1, .int .i64 r2]) ∧ Below w.heap.size w w' := by
  unfold laws_toIntA2.f at h
  simp only [Option.some.injEq, Prod.mk.injEq] at h
  obtain ⟨rfl, rfl⟩ := h
  go_enter Try.func95, Try.ntmps95
  go_wp2
  go_rounds 3
  exact bodyPost_ret (v := .agg #[.int .i64 a0_0, .int .i64 a0_1]) (by simp [results, Try.results95, go_sem]) rfl ⟨rfl, by repeat (first | exact Below.refl _ _ | apply below_alloc | apply pw_below_drewN | apply below_drew1)⟩

def laws_eqIntA2.f (a0_0 : Int) (a0_1 : Int) (a1_0 : Int) (a1_1 : Int) : Option Bool := some (a0_0 == a1_0 && a0_1 == a1_1)
set_option maxHeartbeats 1000000 in
theorem laws_eqIntA2.calls (a0_0 : Int) (a0_1 : Int) (a1_0 : Int) (a1_1 : Int) (r : Bool) (w : World) (h : laws_eqIntA2.f a0_0 a0_1 a1_0 a1_1 = some r) :
    Calls Try.prog 97 #[.agg #[.int .i64 a0_0, .int .i64 a0_1], .agg #[.int .i64 a1_0, .int .i64 a1_1]] w fun e w' => e = .returned (.bool r) ∧ Below w.heap.size w w' := by
  unfold laws_eqIntA2.f at h
  obtain rfl := Option.some.inj h
  clear h
  by_cases h0 : a0_0 = a1_0
  · have h0b : (a0_0 != a1_0) = false := bne_eq_false_iff_eq.mpr h0
    have h0c : (a0_0 == a1_0) = true := beq_iff_eq.mpr h0
    clear h0
    by_cases h1 : a0_1 = a1_1
    · have h1b : (a0_1 != a1_1) = false := bne_eq_false_iff_eq.mpr h1
      have h1c : (a0_1 == a1_1) = true := beq_iff_eq.mpr h1
      clear h1
      go_enter Try.func97, Try.ntmps97
      go_wp2
      refine wp_loop_rounds 3 ?_
      rw [rounds_succ]; go_wp2; go_quiet (fail); go_wp2
      rw [rounds_succ]; go_wp2; go_quiet (fail); go_wp2
      rw [rounds_succ]; go_wp2
      go_ret
      exact ⟨by simp [*], by repeat (first | exact Below.refl _ _ | apply below_alloc | apply pw_below_drewN | apply below_drew1)⟩
    · have h1b : (a0_1 != a1_1) = true := bne_iff_ne.mpr h1
      have h1c : (a0_1 == a1_1) = false := beq_eq_false_iff_ne.mpr h1
      clear h1
      go_enter Try.func97, Try.ntmps97
      go_wp2
      refine wp_loop_rounds 3 ?_
      rw [rounds_succ]; go_wp2; go_quiet (fail); go_wp2
      rw [rounds_succ]; go_wp2; go_quiet (fail); go_wp2
      go_ret
      exact ⟨by simp [*], by repeat (first | exact Below.refl _ _ | apply below_alloc | apply pw_below_drewN | apply below_drew1)⟩
  · have h0b : (a0_0 != a1_0) = true := bne_iff_ne.mpr h0
    have h0c : (a0_0 == a1_0) = false := beq_eq_false_iff_ne.mpr h0
    clear h0
    go_enter Try.func97, Try.ntmps97
    go_wp2
    refine wp_loop_rounds 3 ?_
    rw [rounds_succ]; go_wp2; go_quiet (fail); go_wp2
    go_ret
    exact ⟨by simp [*], by repeat (first | exact Below.refl _ _ | apply below_alloc | apply pw_below_drewN | apply below_drew1)⟩

end Go.Proofs.Ytpbngmkhpcgpkaa.P
