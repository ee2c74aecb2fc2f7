/- impl's isState and areValues: a list of numbers within bounds, of a bounded or a given length; for every world. -/
import Derived.Test.YtpbngmkhpcgpkaaIsWayExtF
namespace Go.Proofs.Ytpbngmkhpcgpkaa.P
open Go.RowKit Go.Proofs.YtpbngmkhpcgpkaaW.PrintWords Go.Proofs.YtpbngmkhpcgpkaaW.PrintLast Go.Proofs.YtpbngmkhpcgpkaaW.PrintMore
set_option linter.unusedVariables false
set_option linter.unusedSimpArgs false

/-- Not from -b to b. -/
def outB (b n : Int) : Bool := !(decide (-b ≤ n) && decide (n ≤ b))
set_option maxHeartbeats 1000000 in
theorem isState1_any (n : Int) (W : World) : Calls Try.prog 107 #[.int .i64 n] W fun e w' => e = .returned (.bool (outB 99 n)) ∧ Below W.heap.size W w' := by
  have e : outB 99 n = !(decide (-99 ≤ n) && decide (n ≤ 99)) := rfl
  rw [e]
  clear e
  by_cases h0 : -99 ≤ n
  · have h0b : decide (-99 ≤ n) = true := decide_eq_true h0
    have h0c : decide (n ≥ -99) = true := decide_eq_true h0
    clear h0
    go_enter Try.func107, Try.ntmps107
    go_wp2
    go_ret
    exact ⟨by first | rfl | simp [*], by repeat (first | exact Below.refl _ _ | apply below_alloc | apply pw_below_drewN | apply below_drew1)⟩
  · have h0b : decide (-99 ≤ n) = false := decide_eq_false h0
    have h0c : decide (n ≥ -99) = false := decide_eq_false h0
    clear h0
    go_enter Try.func107, Try.ntmps107
    go_wp2
    go_ret
    exact ⟨by first | rfl | simp [*], by repeat (first | exact Below.refl _ _ | apply below_alloc | apply pw_below_drewN | apply below_drew1)⟩
def impl_isState.f (l0 : List Int) : Option Bool := some (decide ((l0.length : Int) ≤ 24) && !(l0.any (outB 99)))
set_option maxHeartbeats 1000000 in
theorem impl_isState.calls (A0 : Option Addr) (c0 : Nat) (l0 : List Int) (r : Bool) (w : World) (hr0 : Kd.C (Kd.int .i64) w A0 l0.length l0) (hc0 : l0.length ≤ c0) (h : impl_isState.f l0 = some r) :
    Calls Try.prog 75 #[.slice A0 l0.length c0] w fun e w' => e = .returned (.bool r) ∧ Below w.heap.size w w' := by
  obtain rfl := Option.some.inj h
  clear h
  have HP := Aside0.mk (show PredB 107 #[] (Value.int .i64) (outB 99) l0 w from fun W x _ _ => isState1_any x W)
  have HR0 := Aside0.mk hr0
  clear hr0
  generalize hg : l0.any (outB 99) = b
  have HG := Aside0.mk hg
  clear hg
  by_cases h0 : (l0.length : Int) ≤ 24
  · have h0b : decide ((l0.length : Int) ≤ 24) = true := decide_eq_true h0
    have h0c : decide (l0.length ≤ 24) = true := decide_eq_true (by omega)
    rw [h0b]
    clear h0
    go_enter Try.func75, Try.ntmps75
    go_wp2_with (go_at_call 106; refine (cont_ints _ #[] (enters_of Try.func107 (by kernel_rfl) rfl) _ A0 c0 l0 _ HR0.out HP.out).mono ?_; rintro e w' ⟨rfl, hb⟩; rw [HG.out]; have HB := Aside0.mk hb; clear hb)
    go_ret
    exact ⟨by first | rfl | (simp; done), HB.out⟩
  · have h0b : decide ((l0.length : Int) ≤ 24) = false := decide_eq_false h0
    have h0c : decide (l0.length ≤ 24) = false := decide_eq_false (by omega)
    rw [h0b]
    clear h0
    go_enter Try.func75, Try.ntmps75
    go_wp2
    go_ret
    exact ⟨by first | rfl | (simp; done), Below.refl _ _⟩

end Go.Proofs.Ytpbngmkhpcgpkaa.P
