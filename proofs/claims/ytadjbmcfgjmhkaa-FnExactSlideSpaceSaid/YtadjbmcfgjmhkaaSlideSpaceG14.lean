-- Written by a program of this session (the kit's print, turned: wip/print/patch.py) out of the translation. Not trusted: Lean checks it.
import Derived.Test.YtadjbmcfgjmhkaaSlideSpaceG5
import Derived.Test.YtadjbmcfgjmhkaaSlideSpaceG10
import Derived.Test.YtadjbmcfgjmhkaaSlideSpaceG13
import Derived.Deep.RegionHeld3
import Derived.Test.YtadjbmcfgjmhkaaSlideSpaceG7
import Derived.Test.YtadjbmcfgjmhkaaSlideSpaceG8
import Derived.Test.YtadjbmcfgjmhkaaSlideSpaceG11
namespace Go.Proofs.Ytadjbmcfgjmhkaa.P
open Go.RowKit Go.Proofs.YtadjbmcfgjmhkaaW.PrintWords Go.Proofs.YtadjbmcfgjmhkaaW.PrintLast Go.Proofs.YtadjbmcfgjmhkaaW.PrintMore
attribute [local go_sem] max2_int min2_int max_two min_two max_three min_three max_four min_four   -- for this text's walks alone
set_option linter.unusedVariables false
set_option linter.unusedSimpArgs false

/-! ### impl_Graph_hasKind: function 101 -/
/-! ### bits_OnesCount64: function 115 -/
def bits_OnesCount64.f (a0 : Int) : Option (Int) := some (Go.bits .and .i64 (wrap64 (IntKind.u64.wrap ((IntKind.u64.wrap ((IntKind.u64.wrap ((Go.bits .and .u64 (IntKind.u64.wrap (((IntKind.u64.wrap ((Go.bits .and .u64 ((IntKind.u64.wrap ((Go.bits .and .u64 (a0 / 2) 6148914691236517205) + (Go.bits .and .u64 a0 6148914691236517205))) / 4) 3689348814741910323) + (Go.bits .and .u64 (IntKind.u64.wrap ((Go.bits .and .u64 (a0 / 2) 6148914691236517205) + (Go.bits .and .u64 a0 6148914691236517205))) 3689348814741910323))) / 16) + (IntKind.u64.wrap ((Go.bits .and .u64 ((IntKind.u64.wrap ((Go.bits .and .u64 (a0 / 2) 6148914691236517205) + (Go.bits .and .u64 a0 6148914691236517205))) / 4) 3689348814741910323) + (Go.bits .and .u64 (IntKind.u64.wrap ((Go.bits .and .u64 (a0 / 2) 6148914691236517205) + (Go.bits .and .u64 a0 6148914691236517205))) 3689348814741910323))))) 1085102592571150095) + ((Go.bits .and .u64 (IntKind.u64.wrap (((IntKind.u64.wrap ((Go.bits .and .u64 ((IntKind.u64.wrap ((Go.bits .and .u64 (a0 / 2) 6148914691236517205) + (Go.bits .and .u64 a0 6148914691236517205))) / 4) 3689348814741910323) + (Go.bits .and .u64 (IntKind.u64.wrap ((Go.bits .and .u64 (a0 / 2) 6148914691236517205) + (Go.bits .and .u64 a0 6148914691236517205))) 3689348814741910323))) / 16) + (IntKind.u64.wrap ((Go.bits .and .u64 ((IntKind.u64.wrap ((Go.bits .and .u64 (a0 / 2) 6148914691236517205) + (Go.bits .and .u64 a0 6148914691236517205))) / 4) 3689348814741910323) + (Go.bits .and .u64 (IntKind.u64.wrap ((Go.bits .and .u64 (a0 / 2) 6148914691236517205) + (Go.bits .and .u64 a0 6148914691236517205))) 3689348814741910323))))) 1085102592571150095) / 256))) + ((IntKind.u64.wrap ((Go.bits .and .u64 (IntKind.u64.wrap (((IntKind.u64.wrap ((Go.bits .and .u64 ((IntKind.u64.wrap ((Go.bits .and .u64 (a0 / 2) 6148914691236517205) + (Go.bits .and .u64 a0 6148914691236517205))) / 4) 3689348814741910323) + (Go.bits .and .u64 (IntKind.u64.wrap ((Go.bits .and .u64 (a0 / 2) 6148914691236517205) + (Go.bits .and .u64 a0 6148914691236517205))) 3689348814741910323))) / 16) + (IntKind.u64.wrap ((Go.bits .and .u64 ((IntKind.u64.wrap ((Go.bits .and .u64 (a0 / 2) 6148914691236517205) + (Go.bits .and .u64 a0 6148914691236517205))) / 4) 3689348814741910323) + (Go.bits .and .u64 (IntKind.u64.wrap ((Go.bits .and .u64 (a0 / 2) 6148914691236517205) + (Go.bits .and .u64 a0 6148914691236517205))) 3689348814741910323))))) 1085102592571150095) + ((Go.bits .and .u64 (IntKind.u64.wrap (((IntKind.u64.wrap ((Go.bits .and .u64 ((IntKind.u64.wrap ((Go.bits .and .u64 (a0 / 2) 6148914691236517205) + (Go.bits .and .u64 a0 6148914691236517205))) / 4) 3689348814741910323) + (Go.bits .and .u64 (IntKind.u64.wrap ((Go.bits .and .u64 (a0 / 2) 6148914691236517205) + (Go.bits .and .u64 a0 6148914691236517205))) 3689348814741910323))) / 16) + (IntKind.u64.wrap ((Go.bits .and .u64 ((IntKind.u64.wrap ((Go.bits .and .u64 (a0 / 2) 6148914691236517205) + (Go.bits .and .u64 a0 6148914691236517205))) / 4) 3689348814741910323) + (Go.bits .and .u64 (IntKind.u64.wrap ((Go.bits .and .u64 (a0 / 2) 6148914691236517205) + (Go.bits .and .u64 a0 6148914691236517205))) 3689348814741910323))))) 1085102592571150095) / 256))) / 65536))) + ((IntKind.u64.wrap ((IntKind.u64.wrap ((Go.bits .and .u64 (IntKind.u64.wrap (((IntKind.u64.wrap ((Go.bits .and .u64 ((IntKind.u64.wrap ((Go.bits .and .u64 (a0 / 2) 6148914691236517205) + (Go.bits .and .u64 a0 6148914691236517205))) / 4) 3689348814741910323) + (Go.bits .and .u64 (IntKind.u64.wrap ((Go.bits .and .u64 (a0 / 2) 6148914691236517205) + (Go.bits .and .u64 a0 6148914691236517205))) 3689348814741910323))) / 16) + (IntKind.u64.wrap ((Go.bits .and .u64 ((IntKind.u64.wrap ((Go.bits .and .u64 (a0 / 2) 6148914691236517205) + (Go.bits .and .u64 a0 6148914691236517205))) / 4) 3689348814741910323) + (Go.bits .and .u64 (IntKind.u64.wrap ((Go.bits .and .u64 (a0 / 2) 6148914691236517205) + (Go.bits .and .u64 a0 6148914691236517205))) 3689348814741910323))))) 1085102592571150095) + ((Go.bits .and .u64 (IntKind.u64.wrap (((IntKind.u64.wrap ((Go.bits .and .u64 ((IntKind.u64.wrap ((Go.bits .and .u64 (a0 / 2) 6148914691236517205) + (Go.bits .and .u64 a0 6148914691236517205))) / 4) 3689348814741910323) + (Go.bits .and .u64 (IntKind.u64.wrap ((Go.bits .and .u64 (a0 / 2) 6148914691236517205) + (Go.bits .and .u64 a0 6148914691236517205))) 3689348814741910323))) / 16) + (IntKind.u64.wrap ((Go.bits .and .u64 ((IntKind.u64.wrap ((Go.bits .and .u64 (a0 / 2) 6148914691236517205) + (Go.bits .and .u64 a0 6148914691236517205))) / 4) 3689348814741910323) + (Go.bits .and .u64 (IntKind.u64.wrap ((Go.bits .and .u64 (a0 / 2) 6148914691236517205) + (Go.bits .and .u64 a0 6148914691236517205))) 3689348814741910323))))) 1085102592571150095) / 256))) + ((IntKind.u64.wrap ((Go.bits .and .u64 (IntKind.u64.wrap (((IntKind.u64.wrap ((Go.bits .and .u64 ((IntKind.u64.wrap ((Go.bits .and .u64 (a0 / 2) 6148914691236517205) + (Go.bits .and .u64 a0 6148914691236517205))) / 4) 3689348814741910323) + (Go.bits .and .u64 (IntKind.u64.wrap ((Go.bits .and .u64 (a0 / 2) 6148914691236517205) + (Go.bits .and .u64 a0 6148914691236517205))) 3689348814741910323))) / 16) + (IntKind.u64.wrap ((Go.bits .and .u64 ((IntKind.u64.wrap ((Go.bits .and .u64 (a0 / 2) 6148914691236517205) + (Go.bits .and .u64 a0 6148914691236517205))) / 4) 3689348814741910323) + (Go.bits .and .u64 (IntKind.u64.wrap ((Go.bits .and .u64 (a0 / 2) 6148914691236517205) + (Go.bits .and .u64 a0 6148914691236517205))) 3689348814741910323))))) 1085102592571150095) + ((Go.bits .and .u64 (IntKind.u64.wrap (((IntKind.u64.wrap ((Go.bits .and .u64 ((IntKind.u64.wrap ((Go.bits .and .u64 (a0 / 2) 6148914691236517205) + (Go.bits .and .u64 a0 6148914691236517205))) / 4) 3689348814741910323) + (Go.bits .and .u64 (IntKind.u64.wrap ((Go.bits .and .u64 (a0 / 2) 6148914691236517205) + (Go.bits .and .u64 a0 6148914691236517205))) 3689348814741910323))) / 16) + (IntKind.u64.wrap ((Go.bits .and .u64 ((IntKind.u64.wrap ((Go.bits .and .u64 (a0 / 2) 6148914691236517205) + (Go.bits .and .u64 a0 6148914691236517205))) / 4) 3689348814741910323) + (Go.bits .and .u64 (IntKind.u64.wrap ((Go.bits .and .u64 (a0 / 2) 6148914691236517205) + (Go.bits .and .u64 a0 6148914691236517205))) 3689348814741910323))))) 1085102592571150095) / 256))) / 65536))) / 4294967296)))) 127)
set_option maxHeartbeats 8000000 in
set_option maxRecDepth 100000 in
theorem bits_OnesCount64.calls (a0 : Int) (r : Int) (w : World) (h : bits_OnesCount64.f a0 = some r) :
 Calls Try.prog 115 #[.int .u64 a0] w fun e w' => e = .returned (.int .i64 r) ∧ Drawn0 w w' := by
 have H : (some (Go.bits .and .i64 (wrap64 (IntKind.u64.wrap ((IntKind.u64.wrap ((IntKind.u64.wrap ((Go.bits .and .u64 (IntKind.u64.wrap (((IntKind.u64.wrap ((Go.bits .and .u64 ((IntKind.u64.wrap ((Go.bits .and .u64 (a0 / 2) 6148914691236517205) + (Go.bits .and .u64 a0 6148914691236517205))) / 4) 3689348814741910323) + (Go.bits .and .u64 (IntKind.u64.wrap ((Go.bits .and .u64 (a0 / 2) 6148914691236517205) + (Go.bits .and .u64 a0 6148914691236517205))) 3689348814741910323))) / 16) + (IntKind.u64.wrap ((Go.bits .and .u64 ((IntKind.u64.wrap ((Go.bits .and .u64 (a0 / 2) 6148914691236517205) + (Go.bits .and .u64 a0 6148914691236517205))) / 4) 3689348814741910323) + (Go.bits .and .u64 (IntKind.u64.wrap ((Go.bits .and .u64 (a0 / 2) 6148914691236517205) + (Go.bits .and .u64 a0 6148914691236517205))) 3689348814741910323))))) 1085102592571150095) + ((Go.bits .and .u64 (IntKind.u64.wrap (((IntKind.u64.wrap ((Go.bits .and .u64 ((IntKind.u64.wrap ((Go.bits .and .u64 (a0 / 2) 6148914691236517205) + (Go.bits .and .u64 a0 6148914691236517205))) / 4) 3689348814741910323) + (Go.bits .and .u64 (IntKind.u64.wrap ((Go.bits .and .u64 (a0 / 2) 6148914691236517205) + (Go.bits .and .u64 a0 6148914691236517205))) 3689348814741910323))) / 16) + (IntKind.u64.wrap ((Go.bits .and .u64 ((IntKind.u64.wrap ((Go.bits .and .u64 (a0 / 2) 6148914691236517205) + (Go.bits .and .u64 a0 6148914691236517205))) / 4) 3689348814741910323) + (Go.bits .and .u64 (IntKind.u64.wrap ((Go.bits .and .u64 (a0 / 2) 6148914691236517205) + (Go.bits .and .u64 a0 6148914691236517205))) 3689348814741910323))))) 1085102592571150095) / 256))) + ((IntKind.u64.wrap ((Go.bits .and .u64 (IntKind.u64.wrap (((IntKind.u64.wrap ((Go.bits .and .u64 ((IntKind.u64.wrap ((Go.bits .and .u64 (a0 / 2) 6148914691236517205) + (Go.bits .and .u64 a0 6148914691236517205))) / 4) 3689348814741910323) + (Go.bits .and .u64 (IntKind.u64.wrap ((Go.bits .and .u64 (a0 / 2) 6148914691236517205) + (Go.bits .and .u64 a0 6148914691236517205))) 3689348814741910323))) / 16) + (IntKind.u64.wrap ((Go.bits .and .u64 ((IntKind.u64.wrap ((Go.bits .and .u64 (a0 / 2) 6148914691236517205) + (Go.bits .and .u64 a0 6148914691236517205))) / 4) 3689348814741910323) + (Go.bits .and .u64 (IntKind.u64.wrap ((Go.bits .and .u64 (a0 / 2) 6148914691236517205) + (Go.bits .and .u64 a0 6148914691236517205))) 3689348814741910323))))) 1085102592571150095) + ((Go.bits .and .u64 (IntKind.u64.wrap (((IntKind.u64.wrap ((Go.bits .and .u64 ((IntKind.u64.wrap ((Go.bits .and .u64 (a0 / 2) 6148914691236517205) + (Go.bits .and .u64 a0 6148914691236517205))) / 4) 3689348814741910323) + (Go.bits .and .u64 (IntKind.u64.wrap ((Go.bits .and .u64 (a0 / 2) 6148914691236517205) + (Go.bits .and .u64 a0 6148914691236517205))) 3689348814741910323))) / 16) + (IntKind.u64.wrap ((Go.bits .and .u64 ((IntKind.u64.wrap ((Go.bits .and .u64 (a0 / 2) 6148914691236517205) + (Go.bits .and .u64 a0 6148914691236517205))) / 4) 3689348814741910323) + (Go.bits .and .u64 (IntKind.u64.wrap ((Go.bits .and .u64 (a0 / 2) 6148914691236517205) + (Go.bits .and .u64 a0 6148914691236517205))) 3689348814741910323))))) 1085102592571150095) / 256))) / 65536))) + ((IntKind.u64.wrap ((IntKind.u64.wrap ((Go.bits .and .u64 (IntKind.u64.wrap (((IntKind.u64.wrap ((Go.bits .and .u64 ((IntKind.u64.wrap ((Go.bits .and .u64 (a0 / 2) 6148914691236517205) + (Go.bits .and .u64 a0 6148914691236517205))) / 4) 3689348814741910323) + (Go.bits .and .u64 (IntKind.u64.wrap ((Go.bits .and .u64 (a0 / 2) 6148914691236517205) + (Go.bits .and .u64 a0 6148914691236517205))) 3689348814741910323))) / 16) + (IntKind.u64.wrap ((Go.bits .and .u64 ((IntKind.u64.wrap ((Go.bits .and .u64 (a0 / 2) 6148914691236517205) + (Go.bits .and .u64 a0 6148914691236517205))) / 4) 3689348814741910323) + (Go.bits .and .u64 (IntKind.u64.wrap ((Go.bits .and .u64 (a0 / 2) 6148914691236517205) + (Go.bits .and .u64 a0 6148914691236517205))) 3689348814741910323))))) 1085102592571150095) + ((Go.bits .and .u64 (IntKind.u64.wrap (((IntKind.u64.wrap ((Go.bits .and .u64 ((IntKind.u64.wrap ((Go.bits .and .u64 (a0 / 2) 6148914691236517205) + (Go.bits .and .u64 a0 6148914691236517205))) / 4) 3689348814741910323) + (Go.bits .and .u64 (IntKind.u64.wrap ((Go.bits .and .u64 (a0 / 2) 6148914691236517205) + (Go.bits .and .u64 a0 6148914691236517205))) 3689348814741910323))) / 16) + (IntKind.u64.wrap ((Go.bits .and .u64 ((IntKind.u64.wrap ((Go.bits .and .u64 (a0 / 2) 6148914691236517205) + (Go.bits .and .u64 a0 6148914691236517205))) / 4) 3689348814741910323) + (Go.bits .and .u64 (IntKind.u64.wrap ((Go.bits .and .u64 (a0 / 2) 6148914691236517205) + (Go.bits .and .u64 a0 6148914691236517205))) 3689348814741910323))))) 1085102592571150095) / 256))) + ((IntKind.u64.wrap ((Go.bits .and .u64 (IntKind.u64.wrap (((IntKind.u64.wrap ((Go.bits .and .u64 ((IntKind.u64.wrap ((Go.bits .and .u64 (a0 / 2) 6148914691236517205) + (Go.bits .and .u64 a0 6148914691236517205))) / 4) 3689348814741910323) + (Go.bits .and .u64 (IntKind.u64.wrap ((Go.bits .and .u64 (a0 / 2) 6148914691236517205) + (Go.bits .and .u64 a0 6148914691236517205))) 3689348814741910323))) / 16) + (IntKind.u64.wrap ((Go.bits .and .u64 ((IntKind.u64.wrap ((Go.bits .and .u64 (a0 / 2) 6148914691236517205) + (Go.bits .and .u64 a0 6148914691236517205))) / 4) 3689348814741910323) + (Go.bits .and .u64 (IntKind.u64.wrap ((Go.bits .and .u64 (a0 / 2) 6148914691236517205) + (Go.bits .and .u64 a0 6148914691236517205))) 3689348814741910323))))) 1085102592571150095) + ((Go.bits .and .u64 (IntKind.u64.wrap (((IntKind.u64.wrap ((Go.bits .and .u64 ((IntKind.u64.wrap ((Go.bits .and .u64 (a0 / 2) 6148914691236517205) + (Go.bits .and .u64 a0 6148914691236517205))) / 4) 3689348814741910323) + (Go.bits .and .u64 (IntKind.u64.wrap ((Go.bits .and .u64 (a0 / 2) 6148914691236517205) + (Go.bits .and .u64 a0 6148914691236517205))) 3689348814741910323))) / 16) + (IntKind.u64.wrap ((Go.bits .and .u64 ((IntKind.u64.wrap ((Go.bits .and .u64 (a0 / 2) 6148914691236517205) + (Go.bits .and .u64 a0 6148914691236517205))) / 4) 3689348814741910323) + (Go.bits .and .u64 (IntKind.u64.wrap ((Go.bits .and .u64 (a0 / 2) 6148914691236517205) + (Go.bits .and .u64 a0 6148914691236517205))) 3689348814741910323))))) 1085102592571150095) / 256))) / 65536))) / 4294967296)))) 127)) = some r := h
 clear h
 obtain rfl := Option.some.inj H
 go_enter Try.func115, Try.ntmps115
 go_wp2
 go_ret
 exact ⟨by first | rfl | (simp; done) | (simp [*]; done), by repeat (first | exact Drawn0.refl _ | apply Drawn0.step)⟩

/-! ### bits_OnesCount: function 95 -/
def bits_OnesCount.f (a0 : Int) : Option (Int) := (bits_OnesCount64.f a0).bind fun t338 => (some t338)
set_option maxHeartbeats 8000000 in
set_option maxRecDepth 100000 in
theorem bits_OnesCount.calls (a0 : Int) (r : Int) (w : World) (h : bits_OnesCount.f a0 = some r) :
 Calls Try.prog 95 #[.int .u64 a0] w fun e w' => e = .returned (.int .i64 r) ∧ Below w.heap.size w w' := by
 have HB := zM (Below.refl w.heap.size w)
 have H : ((bits_OnesCount64.f a0).bind fun t338 => (some t338)) = some r := h
 clear h
 replace H := Option.bind_eq_some_iff.mp H
 obtain ⟨t338, A20, H⟩ := H
 have A2 := Aside0.mk A20
 clear A20
 obtain rfl := Option.some.inj H
 go_enter Try.func95, Try.ntmps95
 go_wp2_with (first | ((with_reducible refine gate_callee (f := 115) rfl ?_); refine zc 7 Try.func115 #[.int .u64 a0] ?_; (with_reducible refine (bits_OnesCount64.calls a0 t338 _ A2.out).mono ?_); rintro e w' ⟨rfl, ⟨nd, rfl⟩⟩; refine ⟨_, rfl, ?_⟩))
 go_ret
 exact ⟨by first | rfl | (simp [errW_none, errW_some] <;> rfl) | (simp [*, errW_none, errW_some] <;> rfl), zB⟩

/-! ### impl_bag_size: function 70 -/
def impl_bag_size.f (a0 : Int) : Option (Int) := (bits_OnesCount.f a0).bind fun t339 => (some t339)
set_option maxHeartbeats 8000000 in
set_option maxRecDepth 100000 in
theorem impl_bag_size.calls (a0 : Int) (r : Int) (w : World) (h : impl_bag_size.f a0 = some r) :
 Calls Try.prog 70 #[.int .u64 a0] w fun e w' => e = .returned (.int .i64 r) ∧ Below w.heap.size w w' := by
 have HB := zM (Below.refl w.heap.size w)
 have H : ((bits_OnesCount.f a0).bind fun t339 => (some t339)) = some r := h
 clear h
 replace H := Option.bind_eq_some_iff.mp H
 obtain ⟨t339, A20, H⟩ := H
 have A2 := Aside0.mk A20
 clear A20
 obtain rfl := Option.some.inj H
 go_enter Try.func70, Try.ntmps70
 go_wp2_with (first | ((with_reducible refine gate_callee (f := 95) rfl ?_); refine zc 4 Try.func95 #[.int .u64 a0] ?_; (with_reducible refine (bits_OnesCount.calls a0 t339 _ A2.out).mono ?_); rintro e w3 ⟨rfl, hb⟩; refine ⟨_, rfl, ?_⟩; replace HB := zM (below_step zB hb); (try clear hb); (try clear hb2); (try clear hk); (try clear hi)))
 go_ret
 exact ⟨by first | rfl | (simp [errW_none, errW_some] <;> rfl) | (simp [*, errW_none, errW_some] <;> rfl), zB⟩

end Go.Proofs.Ytadjbmcfgjmhkaa.P
namespace Go.Proofs.Ytadjbmcfgjmhkaa.P
open Go.RowKit Go.Proofs.YtadjbmcfgjmhkaaW.PrintWords Go.Proofs.YtadjbmcfgjmhkaaW.PrintLast Go.Proofs.YtadjbmcfgjmhkaaW.PrintMore
set_option linter.unusedVariables false
set_option linter.unusedSimpArgs false

theorem size_fin : ∀ b : Fin 256, impl_bag_size.f b = some (((selI (hasI b) 8 0).length : Nat) : Int) := by decide +kernel
theorem size_at {b : Int} (h0 : 0 ≤ b) (h1 : b < 256) : impl_bag_size.f b = some (((selI (hasI b) 8 0).length : Nat) : Int) := by
  obtain ⟨i, rfl⟩ := fin_of (n := 256) h0 h1
  exact size_fin i
/-- A set's code: its number of nodes is from lo to hi, and no two are neighbours. -/
def freeP (e : List S70) (lo hi b : Int) : Bool := (decide (lo ≤ ((selI (hasI b) 8 0).length : Int)) && decide (((selI (hasI b) 8 0).length : Int) ≤ hi)) && !(e.any (bothB b))
def edgesOk (e : List S70) : Bool := e.all fun s => decide (0 ≤ s.f0) && decide (0 ≤ s.f1)
theorem isFree_some (a : Int) (e : List S70) (b : Int) (h : edgesOk e = true) : impl_Graph_isFree.f a e b = some (!(e.any (bothB b))) := by
  unfold impl_Graph_isFree.f
  rw [if_pos]
  rw [List.all_eq_true]
  intro s hs
  have := List.all_eq_true.1 h s hs
  rw [Bool.and_eq_true, decide_eq_true_eq, decide_eq_true_eq] at this
  rw [bag_has_at this.1, bag_has_at this.2]
  rfl
theorem between_val (n lo hi : Int) : impl_between.f n lo hi = some (decide (lo ≤ n) && decide (n ≤ hi)) := by
  unfold impl_between.f
  by_cases h : n ≥ lo
  · rw [if_pos h, decide_eq_true (show lo ≤ n from h), Bool.true_and]
  · rw [if_neg h, decide_eq_false (show ¬ lo ≤ n from h), Bool.false_and]
set_option maxHeartbeats 1000000 in
theorem free1_any (gl gh gg : Nat) (lo hi : Int) (a0 : Int) (A1 : Option Addr) (c1 : Nat) (l1 : List S70) (b : Int) (h0 : 0 ≤ b) (h1 : b < 256) (hok : edgesOk l1 = true) (W : World) (hl : W.cell? ⟨gl, 0, none⟩ = some (.int .i64 lo)) (hh : W.cell? ⟨gh, 0, none⟩ = some (.int .i64 hi))
    (hg0 : W.cell? ⟨gg, 0, none⟩ = some (.int .i64 a0)) (hg1 : W.cell? ⟨gg, 1, none⟩ = some (.slice A1 l1.length c1)) (hr : Kd.C k70 W A1 l1.length l1) (hc : l1.length ≤ c1) :
    Calls Try.prog 69 (#[.int .u64 b] ++ #[.pointer (some ⟨gl, 0, none⟩), .pointer (some ⟨gh, 0, none⟩), .pointer (some ⟨gg, 0, none⟩)]) W fun e w' => e = .returned (.bool (freeP l1 lo hi b)) ∧ Below W.heap.size W w' := by
  have hu := Try.underlying28
  have HS := zM (size_at h0 h1)
  obtain ⟨n, hn⟩ : ∃ n : Int, n = ((selI (hasI b) 8 0).length : Int) := ⟨_, rfl⟩
  rw [← hn] at HS
  obtain ⟨q, hq⟩ : ∃ q, q = (decide (lo ≤ n) && decide (n ≤ hi)) := ⟨_, rfl⟩
  obtain ⟨f, hf⟩ : ∃ f, f = !(l1.any (bothB b)) := ⟨_, rfl⟩
  have HQ := zM (show impl_between.f n lo hi = some q by rw [hq]; exact between_val n lo hi)
  have HF := zM (show impl_Graph_isFree.f a0 l1 b = some f by rw [hf]; exact isFree_some a0 l1 b hok)
  have HE := zM (show freeP l1 lo hi b = (q && f) by rw [hq, hf, hn]; rfl)
  rw [HE.out]
  have HR := zM hr
  have HC := zM hc
  clear hr hc hn hq hf HE h0 h1 hok
  show Calls Try.prog 69 #[.int .u64 b, .pointer (some ⟨gl, 0, none⟩), .pointer (some ⟨gh, 0, none⟩), .pointer (some ⟨gg, 0, none⟩)] W _
  go_enter Try.func69, Try.ntmps69
  go_upto_region 1 with (fail)
  (try simp only [Act.put, List.setIfInBounds_toArray, List.set_cons_zero, List.set_cons_succ])
  refine zs (n := 11) (fun w' => w'.cell? ⟨gl, 0, none⟩ = some (.int .i64 lo) ∧ w'.cell? ⟨gh, 0, none⟩ = some (.int .i64 hi) ∧ w'.cell? ⟨gg, 0, none⟩ = some (.int .i64 a0) ∧ w'.cell? ⟨gg, 1, none⟩ = some (.slice A1 l1.length c1)) ⟨hl, hh, hg0, hg1⟩ (fun hHeld => ?_)
  have HB := zM (below_drew (Below.refl W.heap.size W))
  generalize W.drew = W1 at HB hHeld ⊢
  refine zq 0 6 ?_
  refine zl 2 8 hHeld ?_ (hy := by rintro w' ⟨s0, s1, s2, s3⟩; go_simp; with_reducible rfl)
  refine zl 3 9 hHeld ?_ (hy := by rintro w' ⟨s0, s1, s2, s3⟩; go_simp; with_reducible rfl)
  refine zh 1 7 Try.func70 #[.int .u64 b] (fun K hK => ?_)
  refine (impl_bag_size.calls b n _ HS.out).mono ?_
  rintro e w1 ⟨rfl, hd⟩
  have hb : Below _ _ _ := (by first | exact Drawn0.below hd | exact hd)
  refine ⟨_, rfl, ?_⟩
  refine hK.out _ _ ⟨pw_cell_below hb hHeld.1, pw_cell_below hb hHeld.2.1, pw_cell_below hb hHeld.2.2.1, pw_cell_below hb hHeld.2.2.2⟩ (fun hHeld => ?_)
  replace HB := zM (below_step HB.out hb)
  clear hK K hd hb
  refine zn 7 ?_
  refine zh 4 10 Try.func46 #[.int .i64 n, .int .i64 lo, .int .i64 hi] (fun K hK => ?_)
  refine (impl_between.calls n lo hi q _ HQ.out).mono ?_
  rintro e w2 ⟨rfl, hd⟩
  have hb : Below _ _ _ := (by first | exact Drawn0.below hd | exact hd)
  refine ⟨_, rfl, ?_⟩
  refine hK.out _ _ ⟨pw_cell_below hb hHeld.1, pw_cell_below hb hHeld.2.1, pw_cell_below hb hHeld.2.2.1, pw_cell_below hb hHeld.2.2.2⟩ (fun hHeld => ?_)
  replace HB := zM (below_step HB.out hb)
  clear hK K hd hb
  refine zn 10 ?_
  refine zq 5 11 ?_
  cases q with
  | true =>
    refine zl 6 12 hHeld ?_ (hy := by rintro w' ⟨s0, s1, s2, s3⟩; go_simp; with_reducible rfl)
    refine zq 7 13 ?_
    refine zh 8 14 Try.func71 #[.agg #[.int .i64 a0, .slice A1 l1.length c1], .int .u64 b] (fun K hK => ?_)
    refine (impl_Graph_isFree.calls a0 A1 c1 l1 b f _ (Kd.C_below HR.out HB.out) HC.out HF.out).mono ?_
    rintro e w3 ⟨rfl, hb⟩
    refine ⟨_, rfl, ?_⟩
    refine hK.out _ _ ⟨pw_cell_below hb hHeld.1, pw_cell_below hb hHeld.2.1, pw_cell_below hb hHeld.2.2.1, pw_cell_below hb hHeld.2.2.2⟩ (fun hHeld => ?_)
    replace HB := zM (below_step HB.out hb)
    clear hK K hb
    refine zn 14 ?_
    refine zq 9 15 ?_
    refine zq 10 5 ?_
    refine zx ?_
    (try go_wp2)
    go_ret
    exact ⟨by first | rfl | (simp; done), HB.out⟩
  | false =>
    refine zv 6 12 ?_
    refine zv 7 13 ?_
    refine zv 8 14 ?_
    refine zq 9 15 ?_
    refine zq 10 5 ?_
    refine zx ?_
    (try go_wp2)
    go_ret
    exact ⟨by first | rfl | (simp; done), HB.out⟩
def impl_Graph_free.f (a0_0 : Int) (l0_1 : List S70) (a1 a2 : Int) : Option (List (List Int)) :=
  if (0 ≤ a0_0 ∧ a0_0 ≤ 8) ∧ edgesOk l0_1 = true then some (sortLL (codesL (freeP l0_1 a1 a2) (2 ^ a0_0.toNat))) else none
set_option maxRecDepth 100000 in
set_option maxHeartbeats 2000000 in
theorem impl_Graph_free.calls (a0_0 : Int) (A0_1 : Option Addr) (c0_1 : Nat) (l0_1 : List (S70)) (a1 : Int) (a2 : Int) (r : List (List Int)) (w : World) (hr0_1 : Kd.C k70 w A0_1 l0_1.length l0_1) (hc0_1 : l0_1.length ≤ c0_1) (h : impl_Graph_free.f a0_0 l0_1 a1 a2 = some r) :
    Calls Try.prog 43 #[.agg #[.int .i64 a0_0, .slice A0_1 l0_1.length c0_1], .int .i64 a1, .int .i64 a2] w fun e w' => ∃ v0_ : Value, e = .returned (v0_) ∧ Kd.S (Kd.slice 3 (Kd.int .i64)) 39 w' w.heap.size (fun _ => True) v0_ r ∧ Below w.heap.size w w' := by
  unfold impl_Graph_free.f at h
  by_cases c : (0 ≤ a0_0 ∧ a0_0 ≤ 8) ∧ edgesOk l0_1 = true
  case neg => rw [if_neg c] at h; cases h
  rw [if_pos c] at h
  have HE := zM (Option.some.inj h)
  have HR := zM hr0_1
  have HC := zM hc0_1
  have HO := zM c
  have hpow : 2 ^ a0_0.toNat ≤ 256 := Nat.pow_le_pow_right (n := 2) (by decide) (show a0_0.toNat ≤ 8 by have := c.1; omega)
  have HPW := zM hpow
  clear h hr0_1 hc0_1 c hpow
  have HP := fun (W : World) (gg gl gh : Nat) (hg0 : W.cell? ⟨gg, 0, none⟩ = some (.int .i64 a0_0)) (hg1 : W.cell? ⟨gg, 1, none⟩ = some (.slice A0_1 l0_1.length c0_1)) (hl : W.cell? ⟨gl, 0, none⟩ = some (.int .i64 a1)) (hh : W.cell? ⟨gh, 0, none⟩ = some (.int .i64 a2)) (hr : Kd.C k70 W A0_1 l0_1.length l0_1) =>
    zM (show PredN 69 #[.pointer (some ⟨gl, 0, none⟩), .pointer (some ⟨gh, 0, none⟩), .pointer (some ⟨gg, 0, none⟩)] (freeP l0_1 a1 a2) (2 ^ a0_0.toNat) W from fun W' b h0 h1 hb =>
      free1_any gl gh gg a1 a2 a0_0 A0_1 c0_1 l0_1 b h0 (by have := HPW.out; omega) HO.out.2 W' (pw_cell_below hb hl) (pw_cell_below hb hh) (pw_cell_below hb hg0) (pw_cell_below hb hg1) (Kd.C_below hr hb) HC.out)
  have HB1 := zM (below_alloc (below_alloc (below_alloc (Below.refl w.heap.size w) (.cells #[.int .i64 a0_0, .slice A0_1 l0_1.length c0_1] 28)) (.cells #[.int .i64 a1] 3)) (.cells #[.int .i64 a2] 3))
  go_enter Try.func43, Try.ntmps43
  go_wp2_with (go_at_call 68; refine (sets_calls _ _ (enters_of Try.func69 (by kernel_rfl) rfl) _ a0_0 HO.out.1.1 HO.out.1.2 A0_1 c0_1 l0_1 _ (Kd.C_below HR.out HB1.out) HC.out (HP _ _ _ _ (by go_simp) (by go_simp) (by go_simp) (by go_simp) (Kd.C_below HR.out HB1.out)).out).mono ?_; rintro e w3 ⟨v3, rfl, ho, hb⟩; have HS := zM (Kd.S_lower ho (below_size HB1.out)); have HB := zM (below_step HB1.out hb); clear ho hb)
  go_ret
  exact ⟨_, rfl, by rw [← HE.out]; exact HS.out, HB.out⟩
end Go.Proofs.Ytadjbmcfgjmhkaa.P
namespace Go.Proofs.Ytadjbmcfgjmhkaa.P
open Go.RowKit Go.Proofs.YtadjbmcfgjmhkaaW.PrintWords Go.Proofs.YtadjbmcfgjmhkaaW.PrintLast Go.Proofs.YtadjbmcfgjmhkaaW.PrintMore
attribute [local go_sem] max2_int min2_int max_two min_two max_three min_three max_four min_four   -- for this text's walks alone
set_option linter.unusedVariables false
set_option linter.unusedSimpArgs false

/-! ### spec_l3Ask: function 45 -/
def spec_l3Ask.f (k : Nat) (a0_0 : Int) (l0_1 : List (S70)) (a1 : Int) : Option (Bool) := (spec_l2Good.f k a0_0 l0_1).bind fun t431 => (if t431 = true then ((spec_l1In.f a1 0 8).bind fun t432 => (some t432)) else (some false))
set_option maxHeartbeats 8000000 in
set_option maxRecDepth 100000 in
theorem spec_l3Ask.calls (k : Nat) (a0_0 : Int) (A0_1 : Option Addr) (c0_1 : Nat) (l0_1 : List (S70)) (a1 : Int) (r : Bool) (w : World) (hr0_1 : Kd.C k70 w A0_1 l0_1.length l0_1) (hc0_1 : l0_1.length ≤ c0_1) (h : spec_l3Ask.f k a0_0 l0_1 a1 = some r) :
 Calls Try.prog 45 #[.agg #[.int .i64 a0_0, .slice A0_1 l0_1.length c0_1], .int .i64 a1] w fun e w' => e = .returned (.bool r) ∧ Below w.heap.size w w' := by
 have hu28 := Try.underlying28
 have HR0_1 := Aside0.mk hr0_1
 have HC0_1 := Aside0.mk hc0_1
 clear hr0_1 hc0_1
 have HB := zM (Below.refl w.heap.size w)
 have H : ((spec_l2Good.f k a0_0 l0_1).bind fun t431 => (if t431 = true then ((spec_l1In.f a1 0 8).bind fun t432 => (some t432)) else (some false))) = some r := h
 clear h
 replace H := Option.bind_eq_some_iff.mp H
 obtain ⟨t431, A30, H⟩ := H
 have A3 := Aside0.mk A30
 clear A30
 by_cases c4 : t431 = true
 · subst c4
   rw [if_pos rfl] at H
   replace H := Option.bind_eq_some_iff.mp H
   obtain ⟨t432, A50, H⟩ := H
   have A5 := Aside0.mk A50
   clear A50
   obtain rfl := Option.some.inj H
   go_enter Try.func45, Try.ntmps45
   go_wp2_with (first | ((with_reducible refine gate_dst (N := 2) rfl ?_); refine zb (w := w) 2 #[.int .i64 a0_0, .slice A0_1 l0_1.length c0_1] 28 zB ?_; clear HB; intro gb430 w6 HB BK430 GW430; have GE430 := GW430; have hcz7_0 := zy BK430 0; have hcz7_1 := zy BK430 1; have hfz7_0 := blk_frozen BK430.out 0; have hfz7_1 := blk_frozen BK430.out 1) | ((with_reducible refine gate_callee (f := 38) rfl ?_); refine zc 6 Try.func38 #[.agg #[.int .i64 a0_0, .slice A0_1 l0_1.length c0_1]] ?_; (with_reducible refine (spec_l2Good.calls k a0_0 _ _ l0_1 true _ ?side1 ?side2 A3.out).mono ?_); (case side1 => exact zC (Kd.C_below HR0_1.out HB.out)); (case side2 => exact HC0_1.out); rintro e w8 ⟨rfl, hb⟩; refine ⟨_, rfl, ?_⟩; replace BK430 := zM (blk_below (g := gb430) (o := .cells #[.int .i64 a0_0, .slice A0_1 l0_1.length c0_1] 28 (0, 0)) (zK BK430.out) hb); replace HB := zM (below_step zB hb); (try clear hb); (try clear hb2); (try clear hk); (try clear hi)) | (go_at_call 61; (with_reducible refine (spec_l1In.calls a1 0 8 t432 _ A5.out).mono ?_); rintro e w' ⟨rfl, ⟨nd, rfl⟩⟩))
   go_ret
   exact ⟨by first | rfl | (simp [errW_none, errW_some] <;> rfl) | (simp [*, errW_none, errW_some] <;> rfl), zB⟩
 · replace c4 := Bool.eq_false_iff.mpr c4
   subst c4
   have H1 : (some false) = some r := by rw [if_neg (show ¬ (false = true) by decide)] at H; exact H
   clear H
   have H := H1
   clear H1
   obtain rfl := Option.some.inj H
   go_enter Try.func45, Try.ntmps45
   go_wp2_with (first | ((with_reducible refine gate_dst (N := 2) rfl ?_); refine zb (w := w) 2 #[.int .i64 a0_0, .slice A0_1 l0_1.length c0_1] 28 zB ?_; clear HB; intro gb430 w9 HB BK430 GW430; have GE430 := GW430; have hcz10_0 := zy BK430 0; have hcz10_1 := zy BK430 1; have hfz10_0 := blk_frozen BK430.out 0; have hfz10_1 := blk_frozen BK430.out 1) | ((with_reducible refine gate_callee (f := 38) rfl ?_); refine zc 6 Try.func38 #[.agg #[.int .i64 a0_0, .slice A0_1 l0_1.length c0_1]] ?_; (with_reducible refine (spec_l2Good.calls k a0_0 _ _ l0_1 false _ ?side1 ?side2 A3.out).mono ?_); (case side1 => exact zC (Kd.C_below HR0_1.out HB.out)); (case side2 => exact HC0_1.out); rintro e w11 ⟨rfl, hb⟩; refine ⟨_, rfl, ?_⟩; replace BK430 := zM (blk_below (g := gb430) (o := .cells #[.int .i64 a0_0, .slice A0_1 l0_1.length c0_1] 28 (0, 0)) (zK BK430.out) hb); replace HB := zM (below_step zB hb); (try clear hb); (try clear hb2); (try clear hk); (try clear hi)))
   go_ret
   exact ⟨by first | rfl | (simp [errW_none, errW_some] <;> rfl) | (simp [*, errW_none, errW_some] <;> rfl), zB⟩

/-! ### spec_l3Only: function 106 -/
def spec_l3Only.l0 : Nat → List Int → List Int → List Int → Int → Option (List Int)
 | 0, _, _, _, _ => none
 | k + 1, x0, x1, x5, x6 => if x6 < (x0.length : Int) then (if 0 ≤ x6 then ((spec_l1Has.f k x1 (rd x0 x6)).bind fun t486 => (if t486 = true then (spec_l3Only.l0 k x0 x1 x5 (wrap64 (x6 + 1))) else (if x5.length < 17592186044416 then (spec_l3Only.l0 k x0 x1 (x5 ++ [rd x0 x6]) (wrap64 (x6 + 1))) else (none)))) else (none)) else (some x5)
def spec_l3Only.f (k : Nat) (l0 : List Int) (l1 : List Int) : Option (List Int) := spec_l3Only.l0 k l0 l1 (([] : List Int)) 0
set_option maxHeartbeats 8000000 in
set_option maxRecDepth 100000 in
theorem spec_l3Only.calls (k : Nat) (A0 : Option Addr) (c0 : Nat) (l0 : List Int) (A1 : Option Addr) (c1 : Nat) (l1 : List Int) (r : List Int) (w : World) (hr0 : Kd.C (Kd.int .i64) w A0 l0.length l0) (hc0 : l0.length ≤ c0) (hr1 : Kd.C (Kd.int .i64) w A1 l1.length l1) (hc1 : l1.length ≤ c1) (h : spec_l3Only.f k l0 l1 = some r) :
 Calls Try.prog 106 #[.slice A0 l0.length c0, .slice A1 l1.length c1] w fun e w' => ∃ v0_ : Value, e = .returned (v0_) ∧ Kd.R (Kd.int .i64) 3 w' w.heap.size (fun _ => True) v0_ r ∧ Below w.heap.size w w' := by
 have HR0 := Aside0.mk hr0
 have HC0 := Aside0.mk hc0
 clear hr0 hc0
 have HR1 := Aside0.mk hr1
 have HC1 := Aside0.mk hc1
 clear hr1 hc1
 have HB := zM (Below.refl w.heap.size w)
 have H : (spec_l3Only.l0 k l0 l1 (([] : List Int)) 0) = some r := h
 clear h
 obtain ⟨y482, hy482⟩ : ∃ y_ : List Int, y_ = (([] : List Int)) := ⟨_, rfl⟩
 replace H : (spec_l3Only.l0 k l0 l1 y482 0) = some r := by first | (rw [hy482]; with_reducible exact H) | (have H2_ := (Option.bind_some _ _).symm.trans H; rw [hy482]; with_reducible exact H2_) | (have H2_ := (Option.bind_some _ _).symm.trans H; with_reducible exact H2_) | with_reducible exact H | (rw [hy482]; exact H) | exact H
 have Ny482 := Aside0.mk hy482
 clear hy482
 have H' := Aside0.mk H
 clear H
 go_enter Try.func106, Try.ntmps106
 go_wp2_with (first | ((with_reducible refine gate_dst (N := 7) rfl ?_); refine Kd.R_lit (Kd.int .i64) _ 3 ?hg (N := 7) ?hd (xs := ([] : List Int)) (inner := []) (ok := fun _ => True) (okp := fun _ => True) ?hr ?hp (fun _ hk => hk) trivial (Below.refl _ _) (Nat.le_refl _) (by simp) ?_; (case hd => rfl); (case hg => rfl); (case hr => first | (go_simp; done) | (go_simp; rfl)); (case hp => exact (Reps.none _ _)); intro v483 w3 ho4 hb hg_ hnew_; clear hg_ hnew_; (first | rw [← Ny482.out] at ho4 | (simp only [Int.reduceToNat] at ho4; rw [← Ny482.out] at ho4)); have HO484 := zM (Kd.R_lower ho4 (below_size zB)); replace HB := zM (below_step zB hb); clear hb ho4))
 go_loopg [5, 6] k (fun kq v5 v6 w' => ∃ (x5_1 : List Int) (x6_1 : Int), v6 = .int .i64 x6_1 ∧ Aside0 (spec_l3Only.l0 kq l0 l1 x5_1 x6_1 = some r) ∧ Aside0 (kq ≤ k) ∧ Aside0 (Kd.R (Kd.int .i64) 3 w' w.heap.size (fun _ => True) v5 x5_1) ∧ Aside0 (Below w.heap.size w w'))
 case atStart => exact ⟨(y482), (0), (by first | rfl | (simp; done) | (simp [*]; done)), H', ⟨Nat.le_refl _⟩, ⟨zR HO484.out⟩, ⟨zB⟩⟩
 case round =>
  clear H'
  try clear c1
  try clear p2
  obtain ⟨x5_1, x6_1, rfl, HA, HK1, HO_5, HB⟩ := hrel
  cases gk with
  | zero => exact absurd HA.out (by simp [spec_l3Only.l0])
  | succ k1 =>
   have H := HA.out
   clear HA
   simp only [spec_l3Only.l0] at H
   by_cases c5 : x6_1 < (l0.length : Int)
   · rw [if_pos c5] at H
     have c5b0 := decide_eq_true c5
     clear c5
     by_cases c6 : 0 ≤ x6_1
     · rw [if_pos c6] at H
       have c6b0 := decide_eq_true c6
       clear c6
       replace H := Option.bind_eq_some_iff.mp H
       obtain ⟨t486, A70, H⟩ := H
       have A7 := Aside0.mk A70
       clear A70
       by_cases c8 : t486 = true
       · subst c8
         rw [if_pos rfl] at H
         have H' := Aside0.mk H
         clear H
         have p485 : 0 ≤ (x6_1 : Int) := of_decide_eq_true zA
         have q485 : x6_1 < (l0.length : Int) := of_decide_eq_true zA
         obtain ⟨ad485, e485, hx485_0⟩ := Kd.at_int HR0.out x6_1 p485 q485
         cases e485
         (try replace hx485_0 := (HB.out.cell (World.block_lt_of_cell? w _ hx485_0)).trans hx485_0)
         replace p485 := eq_true p485
         replace q485 := eq_true q485
         go_wp2_with (first | ((with_reducible refine gate_callee (f := 103) rfl ?_); refine zc 19 Try.func103 #[.slice A1 l1.length c1, .int .i64 (rd l0 x6_1)] ?_; (with_reducible refine (spec_l1Has.calls k1 _ _ l1 (rd l0 x6_1) true _ ?side1 ?side2 A7.out).mono ?_); (case side1 => exact zC (Kd.C_below HR1.out HB.out)); (case side2 => exact HC1.out); rintro e w' ⟨rfl, ⟨nd, rfl⟩⟩; refine ⟨_, rfl, ?_⟩))
         go_roundg k1
         case measure => have := HK1.out; omega
         case rel => exact ⟨(x5_1), (wrap64 (x6_1 + 1)), (by first | rfl | (simp; done) | (simp [*]; done)), H', ⟨by have := HK1.out; omega⟩, ⟨zR HO_5.out⟩, ⟨zB⟩⟩
       · replace c8 := Bool.eq_false_iff.mpr c8
         subst c8
         have H1 : (if x5_1.length < 17592186044416 then (spec_l3Only.l0 k1 l0 l1 (x5_1 ++ [rd l0 x6_1]) (wrap64 (x6_1 + 1))) else (none)) = some r := by rw [if_neg (show ¬ (false = true) by decide)] at H; exact H
         clear H
         have H := H1
         clear H1
         by_cases c9 : x5_1.length < 17592186044416
         · rw [if_pos c9] at H
           have LMc9 := Aside0.mk c9
           clear c9
           obtain ⟨y488, hy488⟩ : ∃ y_ : List Int, y_ = (x5_1 ++ [rd l0 x6_1]) := ⟨_, rfl⟩
           replace H : (spec_l3Only.l0 k1 l0 l1 y488 (wrap64 (x6_1 + 1))) = some r := by first | (rw [hy488]; with_reducible exact H) | (have H2_ := (Option.bind_some _ _).symm.trans H; rw [hy488]; with_reducible exact H2_) | (have H2_ := (Option.bind_some _ _).symm.trans H; with_reducible exact H2_) | with_reducible exact H | (rw [hy488]; exact H) | exact H
           have Ny488 := Aside0.mk hy488
           clear hy488
           have H' := Aside0.mk H
           clear H
           have p485 : 0 ≤ (x6_1 : Int) := of_decide_eq_true zA
           have q485 : x6_1 < (l0.length : Int) := of_decide_eq_true zA
           obtain ⟨ad485, e485, hx485_0⟩ := Kd.at_int HR0.out x6_1 p485 q485
           cases e485
           (try replace hx485_0 := (HB.out.cell (World.block_lt_of_cell? w _ hx485_0)).trans hx485_0)
           replace p485 := eq_true p485
           replace q485 := eq_true q485
           go_wp2_with (first | ((with_reducible refine gate_callee (f := 103) rfl ?_); refine zc 19 Try.func103 #[.slice A1 l1.length c1, .int .i64 (rd l0 x6_1)] ?_; (with_reducible refine (spec_l1Has.calls k1 _ _ l1 (rd l0 x6_1) false _ ?side1 ?side2 A7.out).mono ?_); (case side1 => exact zC (Kd.C_below HR1.out HB.out)); (case side2 => exact HC1.out); rintro e w' ⟨rfl, ⟨nd, rfl⟩⟩; refine ⟨_, rfl, ?_⟩; have p487 : 0 ≤ (x6_1 : Int) := of_decide_eq_true zA; have q487 : x6_1 < (l0.length : Int) := of_decide_eq_true zA; obtain ⟨ad487, e487, hx487_0⟩ := Kd.at_int HR0.out x6_1 p487 q487; obtain rfl : ad485 = ad487 := (by injection e487); (try replace hx487_0 := (HB.out.cell (World.block_lt_of_cell? w _ hx487_0)).trans hx487_0); replace p487 := eq_true p487; replace q487 := eq_true q487) | ((with_reducible refine gate_builtin (b := .append) (xs := #[.tmp 21, .tmp 26]) rfl ?_); at_builtin; refine Kd.R_append (Kd.int .i64) (w0 := w) w.heap.size rfl (.tmp 21) (.tmp 26) 39 3 (.int .i64 0) 8 rfl Try.underlying39 info3 rfl (by decide) (by omega) u5 x5_1 (rd l0 x6_1) [.int .i64 (rd l0 x6_1)] (fun _ => True) (fun _ => False) rfl rfl ?aP (fun _ hk => hk.elim) ?aF ?aO ?aB ?aS ?aL ?_; (case aP => exact rfl); (case aB => exact zB); (case aF => exact (fun _ _ => trivial)); (case aO => exact (zR HO_5.out)); (case aS => exact (below_size zB)); (case aL => have := LMc9.out; omega); intro v489 w10 ho hb hg hat; rw [← Ny488.out] at ho; replace HB := zM (hb); have HO490 := zM (ho); clear HO_5; clear ho hb hg hat))
           go_roundg k1
           case measure => have := HK1.out; omega
           case rel => exact ⟨(y488), (wrap64 (x6_1 + 1)), (by first | rfl | (simp; done) | (simp [*]; done)), H', ⟨by have := HK1.out; omega⟩, ⟨zR HO490.out⟩, ⟨zB⟩⟩
         · rw [if_neg c9] at H
           exact absurd H (by simp)
     · rw [if_neg c6] at H
       exact absurd H (by simp)
   · rw [if_neg c5] at H
     have c5b0 : decide (x6_1 < (l0.length : Int)) = false := decide_eq_false c5
     clear c5
     obtain rfl := Option.some.inj H
     go_wp2
     go_ret
     exact ⟨_, by first | rfl | (simp [errW_none, errW_some] <;> rfl) | (simp [*, errW_none, errW_some] <;> rfl), by (with_reducible repeat (first | apply Kd.R_alloc | apply Kd.R_drewN | apply Kd.R_drew)); exact HO_5.out, zB⟩

end Go.Proofs.Ytadjbmcfgjmhkaa.P
namespace Go.Proofs.Ytadjbmcfgjmhkaa.P
open Go.RowKit Go.Proofs.YtadjbmcfgjmhkaaW.PrintWords Go.Proofs.YtadjbmcfgjmhkaaW.PrintLast Go.Proofs.YtadjbmcfgjmhkaaW.PrintMore
attribute [local go_sem] max2_int min2_int max_two min_two max_three min_three max_four min_four   -- for this text's walks alone
set_option linter.unusedVariables false
set_option linter.unusedSimpArgs false

/-! ### spec_l3Step: function 81 -/
/-- What is held in a region may grow. -/
theorem any_moreG14 {P : Program} {md : Region.Mode} {ops : Array Oper} {Q : Exit → Act → World → Prop} {S1 S2 : World → Prop} {fuel : Nat} {l : Array Bool} {a : Act} {w : World} (hsub : ∀ w, S2 w → S1 w) (h2 : S2 w) (H : wpAnyLast P md ops Q S2 [] fuel l a w) : wpAnyLast P md ops Q S1 [] fuel l a w := by
  induction fuel generalizing l a w with
  | zero => exact H
  | succ fuel ih => exact ⟨H.1, fun i hi => wpOp_mono (fun a' w' h => ⟨fun hd _ => hsub _ (h.1 hd h2), ih (h.1 (by simp) h2) h.2⟩) (H.2 i hi)⟩
def spec_l3Step.f (k : Nat) (a0_0 : Int) (l0_1 : List (S70)) (a1 : Int) (l2 : List Int) (l3 : List Int) : Option (Bool) := (spec_l3Only.f k l2 l3).bind fun t492 => ((spec_l3Only.f k l3 l2).bind fun t495 => (if a1 = 2 then (some ((wrap64 ((t492.length : Int) + (t495.length : Int))) == 1)) else (if (t492.length : Int) = 1 then (if (t495.length : Int) = 1 then (if a1 = 1 then (some true) else (if 0 < (t492.length : Int) then (if 0 < (t495.length : Int) then ((spec_l2Near.f k a0_0 l0_1 (rd t492 0) (rd t495 0)).bind fun t500 => (some t500)) else (none)) else (none))) else (some false)) else (some false))))
def spec_l3Step.T4 : Bool × List (List Nat × List Nat) := (true, [([], []), ([0], [0]), ([1], [1]), ([2], [2]), ([3], [3]), ([4, 3], [3, 4]), ([5, 3], [3, 5]), ([3, 6], [3, 6]), ([7, 3], [7]), ([8], [8]), ([9, 8], [8, 9]), ([10, 8, 8], [8, 10]), ([11], [11]), ([11], [11]), ([13, 11], [11, 13]), ([14, 11], [11, 14]), ([11], [11]), ([16, 11], [11, 16]), ([17, 11], [11, 17]), ([12, 15, 18, 11, 11], [11, 12, 15, 18]), ([11, 19, 8], [8, 11, 19]), ([8, 20], [8, 20]), ([21, 19, 0, 1, 2, 3, 4, 5, 6, 7, 8, 9, 10, 11, 12, 13, 14, 15, 16, 17, 18, 19, 20, 21], [21])])
def spec_l3Step.B4 : List Nat := [0, 1, 3, 7, 15, 31, 63, 127, 255, 511, 1023, 2047, 4095, 4095, 12287, 28671, 4095, 69631, 200703, 524287, 1048575, 2097151, 4194303]
theorem spec_l3Step.tab4 : rtab .any (opsOf Try.f81 4) = spec_l3Step.T4 := by kernel_rfl
theorem spec_l3Step.bits4 : waitsOk spec_l3Step.T4.2 spec_l3Step.B4 = true := by kernel_rfl
set_option maxHeartbeats 8000000 in
set_option maxRecDepth 100000 in
theorem spec_l3Step.calls (k : Nat) (a0_0 : Int) (A0_1 : Option Addr) (c0_1 : Nat) (l0_1 : List (S70)) (a1 : Int) (A2 : Option Addr) (c2 : Nat) (l2 : List Int) (A3 : Option Addr) (c3 : Nat) (l3 : List Int) (r : Bool) (w : World) (hr0_1 : Kd.C k70 w A0_1 l0_1.length l0_1) (hc0_1 : l0_1.length ≤ c0_1) (hr2 : Kd.C (Kd.int .i64) w A2 l2.length l2) (hc2 : l2.length ≤ c2) (hr3 : Kd.C (Kd.int .i64) w A3 l3.length l3) (hc3 : l3.length ≤ c3) (h : spec_l3Step.f k a0_0 l0_1 a1 l2 l3 = some r) :
 Calls Try.prog 81 #[.agg #[.int .i64 a0_0, .slice A0_1 l0_1.length c0_1], .int .i64 a1, .slice A2 l2.length c2, .slice A3 l3.length c3] w fun e w' => e = .returned (.bool r) ∧ Below w.heap.size w w' := by
 have hu28 := Try.underlying28
 have HR0_1 := Aside0.mk hr0_1
 have HC0_1 := Aside0.mk hc0_1
 clear hr0_1 hc0_1
 have HR2 := Aside0.mk hr2
 have HC2 := Aside0.mk hc2
 clear hr2 hc2
 have HR3 := Aside0.mk hr3
 have HC3 := Aside0.mk hc3
 clear hr3 hc3
 have HB := zM (Below.refl w.heap.size w)
 have H : ((spec_l3Only.f k l2 l3).bind fun t492 => ((spec_l3Only.f k l3 l2).bind fun t495 => (if a1 = 2 then (some ((wrap64 ((t492.length : Int) + (t495.length : Int))) == 1)) else (if (t492.length : Int) = 1 then (if (t495.length : Int) = 1 then (if a1 = 1 then (some true) else (if 0 < (t492.length : Int) then (if 0 < (t495.length : Int) then ((spec_l2Near.f k a0_0 l0_1 (rd t492 0) (rd t495 0)).bind fun t500 => (some t500)) else (none)) else (none))) else (some false)) else (some false))))) = some r := h
 clear h
 replace H := Option.bind_eq_some_iff.mp H
 obtain ⟨t492, A50, H⟩ := H
 have A5 := Aside0.mk A50
 clear A50
 replace H := Option.bind_eq_some_iff.mp H
 obtain ⟨t495, A60, H⟩ := H
 have A6 := Aside0.mk A60
 clear A60
 by_cases c7 : a1 = 2
 · rw [if_pos c7] at H
   have c7b0 : (a1 == 2) = true := beq_iff_eq.mpr c7
   have c7b1 : (a1 != 2) = false := bne_eq_false_iff_eq.mpr c7
   clear c7
   obtain rfl := Option.some.inj H
   go_enter Try.func81, Try.ntmps81
   go_wp2_with (first | ((with_reducible refine gate_dst (N := 4) rfl ?_); (try (refine gate_guard (by rfl) ?_; dsimp only)); refine zb (w := w) 4 #[.int .i64 a0_0, .slice A0_1 l0_1.length c0_1] 28 zB ?_; clear HB; intro gb491 w8 HB BK491 GW491; have GE491 := GW491) | ((with_reducible refine gate_callee (f := 106) rfl ?_); refine zc 13 Try.func106 #[.slice A2 l2.length c2, .slice A3 l3.length c3] ?_; (with_reducible refine (spec_l3Only.calls k _ _ l2 _ _ l3 t492 _ ?side1 ?side2 ?side3 ?side4 A5.out).mono ?_); (case side1 => exact zC (Kd.C_below HR2.out HB.out)); (case side2 => exact HC2.out); (case side3 => exact zC (Kd.C_below HR3.out HB.out)); (case side4 => exact HC3.out); rintro e w9 ⟨v493, rfl, ho0, hb⟩; refine ⟨_, rfl, ?_⟩; have HO494 := zM (Kd.R_lower ho0 (below_size zB)); replace BK491 := zM (blk_below (g := gb491) (o := .cells #[.int .i64 a0_0, .slice A0_1 l0_1.length c0_1] 28 (0, 0)) (zK BK491.out) hb); replace HB := zM (below_step zB hb); (try clear hb); (try clear hb2); (try clear hk); (try clear hi); (try clear ho0)) | ((with_reducible refine gate_callee (f := 106) rfl ?_); refine zc 16 Try.func106 #[.slice A3 l3.length c3, .slice A2 l2.length c2] ?_; (with_reducible refine (spec_l3Only.calls k _ _ l3 _ _ l2 t495 _ ?side1 ?side2 ?side3 ?side4 A6.out).mono ?_); (case side1 => exact zC (Kd.C_below HR3.out HB.out)); (case side2 => exact HC3.out); (case side3 => exact zC (Kd.C_below HR2.out HB.out)); (case side4 => exact HC2.out); rintro e w10 ⟨v496, rfl, ho0, hb⟩; refine ⟨_, rfl, ?_⟩; have HO497 := zM (Kd.R_lower (Kd.R_new' ho0 (Kd.R_lt (zR HO494.out))) (below_size zB)); replace HO494 := zM (Kd.R_elder' (zR HO494.out) (Kd.R_base ho0) hb); replace BK491 := zM (blk_below (g := gb491) (o := .cells #[.int .i64 a0_0, .slice A0_1 l0_1.length c0_1] 28 (0, 0)) (zK BK491.out) hb); replace HB := zM (below_step zB hb); (try clear hb); (try clear hb2); (try clear hk); (try clear hi); (try clear ho0); obtain ⟨Ao11, co11, eo11⟩ := Kd.R_slice HO494.out; subst eo11; obtain ⟨Ao12, co12, eo12⟩ := Kd.R_slice HO497.out; subst eo12))
   go_ret
   exact ⟨by first | rfl | (simp [errW_none, errW_some] <;> rfl) | (simp [*, errW_none, errW_some] <;> rfl), zB⟩
 · rw [if_neg c7] at H
   have c7b0 : (a1 == 2) = false := beq_eq_false_iff_ne.mpr c7
   have c7b1 : (a1 != 2) = true := bne_iff_ne.mpr c7
   by_cases c13 : (t492.length : Int) = 1
   · rw [if_pos c13] at H
     have c13b0 : ((t492.length : Int) == 1) = true := beq_iff_eq.mpr c13
     have c13b1 : ((t492.length : Int) != 1) = false := bne_eq_false_iff_eq.mpr c13
     clear c13
     by_cases c14 : (t495.length : Int) = 1
     · rw [if_pos c14] at H
       have c14b0 : ((t495.length : Int) == 1) = true := beq_iff_eq.mpr c14
       have c14b1 : ((t495.length : Int) != 1) = false := bne_eq_false_iff_eq.mpr c14
       clear c14
       by_cases c15 : a1 = 1
       · rw [if_pos c15] at H
         have c15b0 : (a1 == 1) = true := beq_iff_eq.mpr c15
         have c15b1 : (a1 != 1) = false := bne_eq_false_iff_eq.mpr c15
         clear c15
         obtain rfl := Option.some.inj H
         go_enter Try.func81, Try.ntmps81
         try go_wp2_with (first | ((with_reducible refine gate_dst (N := 4) rfl ?_); (try (refine gate_guard (by rfl) ?_; dsimp only)); refine zb (w := w) 4 #[.int .i64 a0_0, .slice A0_1 l0_1.length c0_1] 28 zB ?_; clear HB; intro gb491 w16 HB BK491 GW491; have GE491 := GW491) | ((with_reducible refine gate_callee (f := 106) rfl ?_); refine zc 13 Try.func106 #[.slice A2 l2.length c2, .slice A3 l3.length c3] ?_; (with_reducible refine (spec_l3Only.calls k _ _ l2 _ _ l3 t492 _ ?side1 ?side2 ?side3 ?side4 A5.out).mono ?_); (case side1 => exact zC (Kd.C_below HR2.out HB.out)); (case side2 => exact HC2.out); (case side3 => exact zC (Kd.C_below HR3.out HB.out)); (case side4 => exact HC3.out); rintro e w17 ⟨v493, rfl, ho0, hb⟩; refine ⟨_, rfl, ?_⟩; have HO494 := zM (Kd.R_lower ho0 (below_size zB)); replace BK491 := zM (blk_below (g := gb491) (o := .cells #[.int .i64 a0_0, .slice A0_1 l0_1.length c0_1] 28 (0, 0)) (zK BK491.out) hb); replace HB := zM (below_step zB hb); (try clear hb); (try clear hb2); (try clear hk); (try clear hi); (try clear ho0)) | ((with_reducible refine gate_callee (f := 106) rfl ?_); refine zc 16 Try.func106 #[.slice A3 l3.length c3, .slice A2 l2.length c2] ?_; (with_reducible refine (spec_l3Only.calls k _ _ l3 _ _ l2 t495 _ ?side1 ?side2 ?side3 ?side4 A6.out).mono ?_); (case side1 => exact zC (Kd.C_below HR3.out HB.out)); (case side2 => exact HC3.out); (case side3 => exact zC (Kd.C_below HR2.out HB.out)); (case side4 => exact HC2.out); rintro e w18 ⟨v496, rfl, ho0, hb⟩; refine ⟨_, rfl, ?_⟩; have HO497 := zM (Kd.R_lower (Kd.R_new' ho0 (Kd.R_lt (zR HO494.out))) (below_size zB)); replace HO494 := zM (Kd.R_elder' (zR HO494.out) (Kd.R_base ho0) hb); replace BK491 := zM (blk_below (g := gb491) (o := .cells #[.int .i64 a0_0, .slice A0_1 l0_1.length c0_1] 28 (0, 0)) (zK BK491.out) hb); replace HB := zM (below_step zB hb); (try clear hb); (try clear hb2); (try clear hk); (try clear hi); (try clear ho0)))
         replace HO494 := zM (Kd.R_drew HO494.out)
         replace HO497 := zM (Kd.R_drew HO497.out)
         replace BK491 := zM (blk_drew BK491.out)
         replace HB := zM (below_drew1 HB.out)
         obtain ⟨Ao20, co20, eo20⟩ := Kd.R_slice HO494.out
         (first | subst eo20 | (injection eo20 with f1_ f2_ f3_; have f4_ := f1_.symm; have f5_ := f3_.symm; clear f1_ f2_ f3_; subst f4_; subst f5_))
         obtain ⟨Ao21, co21, eo21⟩ := Kd.R_slice HO497.out
         (first | subst eo21 | (injection eo21 with f1_ f2_ f3_; have f4_ := f1_.symm; have f5_ := f3_.symm; clear f1_ f2_ f3_; subst f4_; subst f5_))
         refine zs (n := 23) (fun w' => True) trivial (fun hHeld => ?_); refine with_tabW spec_l3Step.tab4 spec_l3Step.bits4 (fun HT_ HW_ => ?_)
         generalize w18.drew = w19 at HO494 HO497 BK491 HB hHeld ⊢
         refine zp HT_ 0 25 ?_
         refine zp HT_ 1 26 ?_
         refine zp HT_ 2 27 ?_
         refine zp HT_ 3 28 ?_
         refine zp HT_ 4 29 ?_
         refine zp HT_ 5 30 ?_
         refine zp HT_ 6 31 ?_
         refine zp HT_ 7 32 ?_
         refine zp HT_ 8 33 ?_
         refine zp HT_ 9 34 ?_
         refine zp HT_ 10 35 ?_
         refine zp HT_ 11 36 ?_
         refine zu HT_ 12 37 ?_
         refine zu HT_ 13 38 ?_
         refine zu HT_ 14 39 ?_
         refine zu HT_ 15 40 ?_
         refine zu HT_ 16 41 ?_
         refine zu HT_ 17 42 ?_
         refine zu HT_ 18 43 ?_
         refine zu HT_ 19 44 ?_
         refine zp HT_ 20 45 ?_
         refine zp HT_ 21 46 ?_
         refine zp HT_ 22 8 ?_
         refine zo HT_ ?_
         try go_wp2
         go_ret
         exact ⟨by first | rfl | (simp [errW_none, errW_some] <;> rfl) | (simp [*, errW_none, errW_some] <;> rfl), zB⟩
       · rw [if_neg c15] at H
         have c15b0 : (a1 == 1) = false := beq_eq_false_iff_ne.mpr c15
         have c15b1 : (a1 != 1) = true := bne_iff_ne.mpr c15
         by_cases c22 : 0 < (t492.length : Int)
         · rw [if_pos c22] at H
           have c22b0 := decide_eq_true c22
           have c22b1 : decide (0 < t492.length) = true := decide_eq_true (by omega)
           clear c22
           by_cases c23 : 0 < (t495.length : Int)
           · rw [if_pos c23] at H
             have c23b0 := decide_eq_true c23
             have c23b1 : decide (0 < t495.length) = true := decide_eq_true (by omega)
             clear c23
             replace H := Option.bind_eq_some_iff.mp H
             obtain ⟨t500, A240, H⟩ := H
             have A24 := Aside0.mk A240
             clear A240
             obtain rfl := Option.some.inj H
             go_enter Try.func81, Try.ntmps81
             try go_wp2_with (first | ((with_reducible refine gate_dst (N := 4) rfl ?_); (try (refine gate_guard (by rfl) ?_; dsimp only)); refine zb (w := w) 4 #[.int .i64 a0_0, .slice A0_1 l0_1.length c0_1] 28 zB ?_; clear HB; intro gb491 w25 HB BK491 GW491; have GE491 := GW491) | ((with_reducible refine gate_callee (f := 106) rfl ?_); refine zc 13 Try.func106 #[.slice A2 l2.length c2, .slice A3 l3.length c3] ?_; (with_reducible refine (spec_l3Only.calls k _ _ l2 _ _ l3 t492 _ ?side1 ?side2 ?side3 ?side4 A5.out).mono ?_); (case side1 => exact zC (Kd.C_below HR2.out HB.out)); (case side2 => exact HC2.out); (case side3 => exact zC (Kd.C_below HR3.out HB.out)); (case side4 => exact HC3.out); rintro e w26 ⟨v493, rfl, ho0, hb⟩; refine ⟨_, rfl, ?_⟩; have HO494 := zM (Kd.R_lower ho0 (below_size zB)); replace BK491 := zM (blk_below (g := gb491) (o := .cells #[.int .i64 a0_0, .slice A0_1 l0_1.length c0_1] 28 (0, 0)) (zK BK491.out) hb); replace HB := zM (below_step zB hb); (try clear hb); (try clear hb2); (try clear hk); (try clear hi); (try clear ho0)) | ((with_reducible refine gate_callee (f := 106) rfl ?_); refine zc 16 Try.func106 #[.slice A3 l3.length c3, .slice A2 l2.length c2] ?_; (with_reducible refine (spec_l3Only.calls k _ _ l3 _ _ l2 t495 _ ?side1 ?side2 ?side3 ?side4 A6.out).mono ?_); (case side1 => exact zC (Kd.C_below HR3.out HB.out)); (case side2 => exact HC3.out); (case side3 => exact zC (Kd.C_below HR2.out HB.out)); (case side4 => exact HC2.out); rintro e w27 ⟨v496, rfl, ho0, hb⟩; refine ⟨_, rfl, ?_⟩; have HO497 := zM (Kd.R_lower (Kd.R_new' ho0 (Kd.R_lt (zR HO494.out))) (below_size zB)); replace HO494 := zM (Kd.R_elder' (zR HO494.out) (Kd.R_base ho0) hb); replace BK491 := zM (blk_below (g := gb491) (o := .cells #[.int .i64 a0_0, .slice A0_1 l0_1.length c0_1] 28 (0, 0)) (zK BK491.out) hb); replace HB := zM (below_step zB hb); (try clear hb); (try clear hb2); (try clear hk); (try clear hi); (try clear ho0)))
             replace HO494 := zM (Kd.R_drew HO494.out)
             replace HO497 := zM (Kd.R_drew HO497.out)
             replace BK491 := zM (blk_drew BK491.out)
             replace HB := zM (below_drew1 HB.out)
             obtain ⟨Ao29, co29, eo29⟩ := Kd.R_slice HO494.out
             (first | subst eo29 | (injection eo29 with f1_ f2_ f3_; have f4_ := f1_.symm; have f5_ := f3_.symm; clear f1_ f2_ f3_; subst f4_; subst f5_))
             obtain ⟨Ao30, co30, eo30⟩ := Kd.R_slice HO497.out
             (first | subst eo30 | (injection eo30 with f1_ f2_ f3_; have f4_ := f1_.symm; have f5_ := f3_.symm; clear f1_ f2_ f3_; subst f4_; subst f5_))
             have p498 : 0 ≤ (0 : Int) := (by omega)
             have q498 : 0 < (t492.length : Int) := of_decide_eq_true zA
             obtain ⟨ad498, e498, hx498_0⟩ := Kd.at_int (Kd.R_reads' HO494.out).2.2 0 p498 q498
             cases e498
             have qi498 : (0 < t492.length) = True := eq_true (by omega)
             (try rw [show ((0 : Int)).toNat = 0 from rfl] at hx498_0)
             (try rw [Addr.add_zero'] at hx498_0)
             replace p498 := eq_true p498
             replace q498 := eq_true q498
             have p499 : 0 ≤ (0 : Int) := (by omega)
             have q499 : 0 < (t495.length : Int) := of_decide_eq_true zA
             obtain ⟨ad499, e499, hx499_0⟩ := Kd.at_int (Kd.R_reads' HO497.out).2.2 0 p499 q499
             cases e499
             have qi499 : (0 < t495.length) = True := eq_true (by omega)
             (try rw [show ((0 : Int)).toNat = 0 from rfl] at hx499_0)
             (try rw [Addr.add_zero'] at hx499_0)
             replace p499 := eq_true p499
             replace q499 := eq_true q499
             refine zs (n := 23) (fun w' => w'.cell? ⟨gb491, 0, none⟩ = some (.int .i64 a0_0) ∧ w'.cell? ⟨gb491, 1, none⟩ = some (.slice A0_1 l0_1.length c0_1) ∧ w'.cell? ad498 = some (.int .i64 (rd t492 0)) ∧ w'.cell? ad499 = some (.int .i64 (rd t495 0))) ⟨(blk_cell BK491.out 0).trans rfl, (blk_cell BK491.out 1).trans rfl, hx498_0, hx499_0⟩ (fun hHeld => ?_); refine with_tabW spec_l3Step.tab4 spec_l3Step.bits4 (fun HT_ HW_ => ?_)
             generalize w27.drew = w28 at HO494 HO497 BK491 HB hx498_0 hx499_0 hHeld ⊢
             refine zp HT_ 0 25 ?_
             refine zp HT_ 1 26 ?_
             refine zp HT_ 2 27 ?_
             refine zp HT_ 3 28 ?_
             refine zp HT_ 4 29 ?_
             refine zp HT_ 5 30 ?_
             refine zp HT_ 6 31 ?_
             refine zp HT_ 7 32 ?_
             refine zp HT_ 8 33 ?_
             refine zp HT_ 9 34 ?_
             refine zp HT_ 10 35 ?_
             refine zp HT_ 11 36 ?_
             refine zp HT_ 13 38 ?_
             refine zp HT_ 14 39 ?_
             refine zp HT_ 16 41 ?_
             refine zp HT_ 17 42 ?_
             refine zt HT_ HW_ 12 37 hHeld ?_ (hy := by rintro w' ⟨s0, s1, s2, s3⟩; go_simp; with_reducible rfl)
             refine zt HT_ HW_ 15 40 hHeld ?_ (hy := by rintro w' ⟨s0, s1, s2, s3⟩; go_simp; with_reducible rfl)
             refine zt HT_ HW_ 18 43 hHeld ?_ (hy := by rintro w' ⟨s0, s1, s2, s3⟩; go_simp; with_reducible rfl)
             refine zg HT_ 19 44 Try.func88 #[.agg #[.int .i64 a0_0, .slice A0_1 l0_1.length c0_1], .int .i64 (rd t492 0), .int .i64 (rd t495 0)] (fun K hK => ?_)
             with_reducible refine (spec_l2Near.calls k a0_0 _ _ l0_1 (rd t492 0) (rd t495 0) t500 _ ?side1 ?side2 A24.out).mono ?_
             (case side1 => exact zC (Kd.C_below HR0_1.out HB.out))
             (case side2 => exact HC0_1.out)
             rintro e w31 ⟨rfl, hb⟩
             have HS2_ := (hb.cell (World.block_lt_of_cell? _ _ (hHeld.2.2.1))).trans (hHeld.2.2.1)
             have HS3_ := (hb.cell (World.block_lt_of_cell? _ _ (hHeld.2.2.2))).trans (hHeld.2.2.2)
             refine ⟨_, rfl, ?_⟩
             replace HO494 := zM (Kd.R_below (zR HO494.out) hb)
             replace HO497 := zM (Kd.R_below (zR HO497.out) hb)
             replace BK491 := zM (blk_below (g := gb491) (o := .cells #[.int .i64 a0_0, .slice A0_1 l0_1.length c0_1] 28 (0, 0)) (zK BK491.out) hb)
             replace HB := zM (below_step zB hb)
             (try clear hb)
             (try clear hb2)
             (try clear hk)
             (try clear hi)
             refine hK.out _ _ ⟨(blk_cell BK491.out 0).trans rfl, (blk_cell BK491.out 1).trans rfl, HS2_, HS3_⟩ (fun hHeld => ?_)
             clear hK K
             refine zn 44 ?_
             refine zp HT_ 20 45 ?_
             refine zp HT_ 21 46 ?_
             refine zp HT_ 22 8 ?_
             refine zo HT_ ?_
             try go_wp2
             go_ret
             exact ⟨by first | rfl | (simp [errW_none, errW_some] <;> rfl) | (simp [*, errW_none, errW_some] <;> rfl), zB⟩
           · rw [if_neg c23] at H
             exact absurd H (by simp)
         · rw [if_neg c22] at H
           exact absurd H (by simp)
     · rw [if_neg c14] at H
       have c14b0 : ((t495.length : Int) == 1) = false := beq_eq_false_iff_ne.mpr c14
       have c14b1 : ((t495.length : Int) != 1) = true := bne_iff_ne.mpr c14
       obtain rfl := Option.some.inj H
       go_enter Try.func81, Try.ntmps81
       try go_wp2_with (first | ((with_reducible refine gate_dst (N := 4) rfl ?_); (try (refine gate_guard (by rfl) ?_; dsimp only)); refine zb (w := w) 4 #[.int .i64 a0_0, .slice A0_1 l0_1.length c0_1] 28 zB ?_; clear HB; intro gb491 w32 HB BK491 GW491; have GE491 := GW491) | ((with_reducible refine gate_callee (f := 106) rfl ?_); refine zc 13 Try.func106 #[.slice A2 l2.length c2, .slice A3 l3.length c3] ?_; (with_reducible refine (spec_l3Only.calls k _ _ l2 _ _ l3 t492 _ ?side1 ?side2 ?side3 ?side4 A5.out).mono ?_); (case side1 => exact zC (Kd.C_below HR2.out HB.out)); (case side2 => exact HC2.out); (case side3 => exact zC (Kd.C_below HR3.out HB.out)); (case side4 => exact HC3.out); rintro e w33 ⟨v493, rfl, ho0, hb⟩; refine ⟨_, rfl, ?_⟩; have HO494 := zM (Kd.R_lower ho0 (below_size zB)); replace BK491 := zM (blk_below (g := gb491) (o := .cells #[.int .i64 a0_0, .slice A0_1 l0_1.length c0_1] 28 (0, 0)) (zK BK491.out) hb); replace HB := zM (below_step zB hb); (try clear hb); (try clear hb2); (try clear hk); (try clear hi); (try clear ho0)) | ((with_reducible refine gate_callee (f := 106) rfl ?_); refine zc 16 Try.func106 #[.slice A3 l3.length c3, .slice A2 l2.length c2] ?_; (with_reducible refine (spec_l3Only.calls k _ _ l3 _ _ l2 t495 _ ?side1 ?side2 ?side3 ?side4 A6.out).mono ?_); (case side1 => exact zC (Kd.C_below HR3.out HB.out)); (case side2 => exact HC3.out); (case side3 => exact zC (Kd.C_below HR2.out HB.out)); (case side4 => exact HC2.out); rintro e w34 ⟨v496, rfl, ho0, hb⟩; refine ⟨_, rfl, ?_⟩; have HO497 := zM (Kd.R_lower (Kd.R_new' ho0 (Kd.R_lt (zR HO494.out))) (below_size zB)); replace HO494 := zM (Kd.R_elder' (zR HO494.out) (Kd.R_base ho0) hb); replace BK491 := zM (blk_below (g := gb491) (o := .cells #[.int .i64 a0_0, .slice A0_1 l0_1.length c0_1] 28 (0, 0)) (zK BK491.out) hb); replace HB := zM (below_step zB hb); (try clear hb); (try clear hb2); (try clear hk); (try clear hi); (try clear ho0)))
       replace HO494 := zM (Kd.R_drew HO494.out)
       replace HO497 := zM (Kd.R_drew HO497.out)
       replace BK491 := zM (blk_drew BK491.out)
       replace HB := zM (below_drew1 HB.out)
       obtain ⟨Ao36, co36, eo36⟩ := Kd.R_slice HO494.out
       (first | subst eo36 | (injection eo36 with f1_ f2_ f3_; have f4_ := f1_.symm; have f5_ := f3_.symm; clear f1_ f2_ f3_; subst f4_; subst f5_))
       obtain ⟨Ao37, co37, eo37⟩ := Kd.R_slice HO497.out
       (first | subst eo37 | (injection eo37 with f1_ f2_ f3_; have f4_ := f1_.symm; have f5_ := f3_.symm; clear f1_ f2_ f3_; subst f4_; subst f5_))
       refine zs (n := 23) (fun w' => True) trivial (fun hHeld => ?_); refine with_tabW spec_l3Step.tab4 spec_l3Step.bits4 (fun HT_ HW_ => ?_)
       generalize w34.drew = w35 at HO494 HO497 BK491 HB hHeld ⊢
       refine zp HT_ 0 25 ?_
       refine zp HT_ 1 26 ?_
       refine zp HT_ 2 27 ?_
       refine zp HT_ 3 28 ?_
       refine zp HT_ 4 29 ?_
       refine zp HT_ 5 30 ?_
       refine zp HT_ 6 31 ?_
       refine zp HT_ 7 32 ?_
       refine zp HT_ 8 33 ?_
       refine zu HT_ 9 34 ?_
       refine zu HT_ 10 35 ?_
       refine zu HT_ 11 36 ?_
       refine zu HT_ 12 37 ?_
       refine zu HT_ 13 38 ?_
       refine zu HT_ 14 39 ?_
       refine zu HT_ 15 40 ?_
       refine zu HT_ 16 41 ?_
       refine zu HT_ 17 42 ?_
       refine zu HT_ 18 43 ?_
       refine zu HT_ 19 44 ?_
       refine zu HT_ 20 45 ?_
       refine zp HT_ 21 46 ?_
       refine zp HT_ 22 8 ?_
       refine zo HT_ ?_
       try go_wp2
       go_ret
       exact ⟨by first | rfl | (simp [errW_none, errW_some] <;> rfl) | (simp [*, errW_none, errW_some] <;> rfl), zB⟩
   · rw [if_neg c13] at H
     have c13b0 : ((t492.length : Int) == 1) = false := beq_eq_false_iff_ne.mpr c13
     have c13b1 : ((t492.length : Int) != 1) = true := bne_iff_ne.mpr c13
     obtain rfl := Option.some.inj H
     go_enter Try.func81, Try.ntmps81
     try go_wp2_with (first | ((with_reducible refine gate_dst (N := 4) rfl ?_); (try (refine gate_guard (by rfl) ?_; dsimp only)); refine zb (w := w) 4 #[.int .i64 a0_0, .slice A0_1 l0_1.length c0_1] 28 zB ?_; clear HB; intro gb491 w38 HB BK491 GW491; have GE491 := GW491) | ((with_reducible refine gate_callee (f := 106) rfl ?_); refine zc 13 Try.func106 #[.slice A2 l2.length c2, .slice A3 l3.length c3] ?_; (with_reducible refine (spec_l3Only.calls k _ _ l2 _ _ l3 t492 _ ?side1 ?side2 ?side3 ?side4 A5.out).mono ?_); (case side1 => exact zC (Kd.C_below HR2.out HB.out)); (case side2 => exact HC2.out); (case side3 => exact zC (Kd.C_below HR3.out HB.out)); (case side4 => exact HC3.out); rintro e w39 ⟨v493, rfl, ho0, hb⟩; refine ⟨_, rfl, ?_⟩; have HO494 := zM (Kd.R_lower ho0 (below_size zB)); replace BK491 := zM (blk_below (g := gb491) (o := .cells #[.int .i64 a0_0, .slice A0_1 l0_1.length c0_1] 28 (0, 0)) (zK BK491.out) hb); replace HB := zM (below_step zB hb); (try clear hb); (try clear hb2); (try clear hk); (try clear hi); (try clear ho0)) | ((with_reducible refine gate_callee (f := 106) rfl ?_); refine zc 16 Try.func106 #[.slice A3 l3.length c3, .slice A2 l2.length c2] ?_; (with_reducible refine (spec_l3Only.calls k _ _ l3 _ _ l2 t495 _ ?side1 ?side2 ?side3 ?side4 A6.out).mono ?_); (case side1 => exact zC (Kd.C_below HR3.out HB.out)); (case side2 => exact HC3.out); (case side3 => exact zC (Kd.C_below HR2.out HB.out)); (case side4 => exact HC2.out); rintro e w40 ⟨v496, rfl, ho0, hb⟩; refine ⟨_, rfl, ?_⟩; have HO497 := zM (Kd.R_lower (Kd.R_new' ho0 (Kd.R_lt (zR HO494.out))) (below_size zB)); replace HO494 := zM (Kd.R_elder' (zR HO494.out) (Kd.R_base ho0) hb); replace BK491 := zM (blk_below (g := gb491) (o := .cells #[.int .i64 a0_0, .slice A0_1 l0_1.length c0_1] 28 (0, 0)) (zK BK491.out) hb); replace HB := zM (below_step zB hb); (try clear hb); (try clear hb2); (try clear hk); (try clear hi); (try clear ho0)))
     replace HO494 := zM (Kd.R_drew HO494.out)
     replace HO497 := zM (Kd.R_drew HO497.out)
     replace BK491 := zM (blk_drew BK491.out)
     replace HB := zM (below_drew1 HB.out)
     obtain ⟨Ao42, co42, eo42⟩ := Kd.R_slice HO494.out
     (first | subst eo42 | (injection eo42 with f1_ f2_ f3_; have f4_ := f1_.symm; have f5_ := f3_.symm; clear f1_ f2_ f3_; subst f4_; subst f5_))
     refine zs (n := 23) (fun w' => True) trivial (fun hHeld => ?_); refine with_tabW spec_l3Step.tab4 spec_l3Step.bits4 (fun HT_ HW_ => ?_)
     generalize w40.drew = w41 at HO494 HO497 BK491 HB hHeld ⊢
     refine zp HT_ 0 25 ?_
     refine zp HT_ 1 26 ?_
     refine zp HT_ 2 27 ?_
     refine zp HT_ 3 28 ?_
     refine zu HT_ 4 29 ?_
     refine zu HT_ 5 30 ?_
     refine zu HT_ 6 31 ?_
     refine zp HT_ 7 32 ?_
     refine zp HT_ 8 33 ?_
     refine zu HT_ 9 34 ?_
     refine zu HT_ 10 35 ?_
     refine zu HT_ 11 36 ?_
     refine zu HT_ 12 37 ?_
     refine zu HT_ 13 38 ?_
     refine zu HT_ 14 39 ?_
     refine zu HT_ 15 40 ?_
     refine zu HT_ 16 41 ?_
     refine zu HT_ 17 42 ?_
     refine zu HT_ 18 43 ?_
     refine zu HT_ 19 44 ?_
     refine zu HT_ 20 45 ?_
     refine zp HT_ 21 46 ?_
     refine zp HT_ 22 8 ?_
     refine zo HT_ ?_
     try go_wp2
     go_ret
     exact ⟨by first | rfl | (simp [errW_none, errW_some] <;> rfl) | (simp [*, errW_none, errW_some] <;> rfl), zB⟩

end Go.Proofs.Ytadjbmcfgjmhkaa.P
