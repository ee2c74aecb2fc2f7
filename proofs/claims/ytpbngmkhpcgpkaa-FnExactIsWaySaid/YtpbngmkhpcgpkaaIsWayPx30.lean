-- Written by a program of this session (the kit's print, turned: wip/print/patch.py) out of the translation. Not trusted: Lean checks it.
import Derived.Test.YtpbngmkhpcgpkaaIsWayPx0
import Derived.Test.YtpbngmkhpcgpkaaIsWayPx5
import Derived.Test.YtpbngmkhpcgpkaaIsWayPx27
import Derived.Test.YtpbngmkhpcgpkaaIsWayPx2
import Derived.Test.YtpbngmkhpcgpkaaIsWayPx16
import Derived.Test.YtpbngmkhpcgpkaaIsWayPx17
import Derived.Test.YtpbngmkhpcgpkaaIsWayPx23
import Derived.Test.YtpbngmkhpcgpkaaIsWayPx24
import Derived.Test.YtpbngmkhpcgpkaaIsWayPx26
import Derived.Test.YtpbngmkhpcgpkaaIsWayExtG
import Derived.Test.YtpbngmkhpcgpkaaIsWayExtF
namespace Go.Proofs.Ytpbngmkhpcgpkaa.P
open Go.RowKit Go.Proofs.YtpbngmkhpcgpkaaW.PrintWords Go.Proofs.YtpbngmkhpcgpkaaW.PrintLast Go.Proofs.YtpbngmkhpcgpkaaW.PrintMore
attribute [local go_sem] max2_int min2_int max_two min_two max_three min_three max_four min_four   -- for this text's walks alone
set_option linter.unusedVariables false
set_option linter.unusedSimpArgs false

/-! ### impl_Space_isPlace: function 84 -/
def impl_Space_isPlace.f (l0_0 : List (List Int)) (l0_1 : List (S68)) (a1 : Int) : Option (Bool) := (impl_between.f a1 0 (wrap64 ((l0_0.length : Int) - 1))).bind fun t673 => (some t673)
set_option maxHeartbeats 8000000 in
set_option maxRecDepth 100000 in
theorem impl_Space_isPlace.calls (A0_0 : Option Addr) (c0_0 : Nat) (l0_0 : List (List Int)) (A0_1 : Option Addr) (c0_1 : Nat) (l0_1 : List (S68)) (a1 : Int) (r : Bool) (w : World) (hr0_0 : Kd.C (Kd.slice 3 (Kd.int .i64)) w A0_0 l0_0.length l0_0) (hc0_0 : l0_0.length ≤ c0_0) (hr0_1 : Kd.C k68 w A0_1 l0_1.length l0_1) (hc0_1 : l0_1.length ≤ c0_1) (h : impl_Space_isPlace.f l0_0 l0_1 a1 = some r) :
 Calls Try.prog 84 #[.agg #[.slice A0_0 l0_0.length c0_0, .slice A0_1 l0_1.length c0_1], .int .i64 a1] w fun e w' => e = .returned (.bool r) ∧ Below w.heap.size w w' := by
 have hu50 := Try.underlying50
 have HR0_0 := Aside0.mk hr0_0
 have HC0_0 := Aside0.mk hc0_0
 clear hr0_0 hc0_0
 have HR0_1 := Aside0.mk hr0_1
 have HC0_1 := Aside0.mk hc0_1
 clear hr0_1 hc0_1
 have HB := zM (Below.refl w.heap.size w)
 have H : ((impl_between.f a1 0 (wrap64 ((l0_0.length : Int) - 1))).bind fun t673 => (some t673)) = some r := h
 clear h
 replace H := Option.bind_eq_some_iff.mp H
 obtain ⟨t673, A30, H⟩ := H
 have A3 := Aside0.mk A30
 clear A30
 obtain rfl := Option.some.inj H
 go_enter Try.func84, Try.ntmps84
 go_wp2_with (first | ((with_reducible refine gate_dst (N := 2) rfl ?_); refine zb (w := w) 2 #[.slice A0_0 l0_0.length c0_0, .slice A0_1 l0_1.length c0_1] 50 zB ?_; clear HB; intro gb672 w4 HB BK672 GW672; have GE672 := GW672; have hcz5_0 := zy BK672 0; have hcz5_1 := zy BK672 1; have hfz5_0 := blk_frozen BK672.out 0; have hfz5_1 := blk_frozen BK672.out 1) | ((with_reducible refine gate_callee (f := 54) rfl ?_); refine zc 10 Try.func54 #[.int .i64 a1, .int .i64 0, .int .i64 (wrap64 ((l0_0.length : Int) - 1))] ?_; (with_reducible refine (impl_between.calls a1 0 (wrap64 ((l0_0.length : Int) - 1)) t673 _ A3.out).mono ?_); rintro e w' ⟨rfl, ⟨nd, rfl⟩⟩; refine ⟨_, rfl, ?_⟩))
 go_ret
 exact ⟨by first | rfl | (simp [errW_none, errW_some] <;> rfl) | (simp [*, errW_none, errW_some] <;> rfl), zB⟩

end Go.Proofs.Ytpbngmkhpcgpkaa.P
