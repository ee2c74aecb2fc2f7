-- Written by a program of this session (the kit's print, turned: wip/print/patch.py) out of the translation. Not trusted: Lean checks it.
import Derived.Test.YtfkcddambaadjaaDoorParseGraphG2
import Derived.Test.YtfkcddambaadjaaDoorProg
import Derived.ChangeKeysEq
import Derived.Below
import Derived.Deep.Draws
import Derived.Deep.AppendLies
import Derived.Maps.AppendAt
import Derived.OwnWalk
import Derived.Laws.BytesArg
import Derived.Laws.MakeOwn
import Derived.Laws.OwnMore
import Derived.Deep.OwnRows
import Derived.Tactics
import Derived.Lib.ConvBytes
import Derived.Laws.Slices
import Derived.WalkKit
import Derived.KernelRfl
import Derived.RowKit3
import Derived.Deep.LoopGhost
import Derived.Deep.QuietTactic
import Derived.BigQuiet
import Derived.WideLaws
import Derived.Deep.DeepCutAuto
import Derived.Deep.CutBlock
import Derived.Deep.RegionHeld3
import Derived.Laws.Rows
import Derived.Lib.AppendStr
import Derived.ArgAppend
import Derived.Laws.IdiomCopy
import Derived.OrdersHeld
import Derived.Laws.BitsLemmas
import Derived.RowKit
import Derived.Test.YtfkcddambaadjaaDoorParseGraphG1
import Derived.Test.YtfkcddambaadjaaDoorParseGraphG0
import Derived.Laws.StructEq
namespace Go.Proofs.YtfkcddambaadjaaDoor.P
open Go.RowKit Go.Proofs.YtfkcddambaadjaaDoorW.PrintWords Go.Proofs.YtfkcddambaadjaaDoorW.PrintLast Go.Proofs.YtfkcddambaadjaaDoorW.PrintMore
attribute [local go_sem] max2_int min2_int max_two min_two max_three min_three max_four min_four   -- for this text's walks alone
set_option linter.unusedVariables false
set_option linter.unusedSimpArgs false



def errW : Option Int → Value
 | none => .nilIface
 | some c => .iface 0 (.int .i64 c)
theorem errW_none : errW none = .nilIface := rfl
theorem errW_some (c : Int) : errW (some c) = .iface 0 (.int .i64 c) := rfl

theorem info9 : (Tryd.prog.info? 9).map (fun i => (i.zero, i.size, i.bytes)) = some (some (.string ⟨#[]⟩), 1, 16) := by kernel_rfl
theorem info41 : (Tryd.prog.info? 41).map (fun i => (i.zero, i.size, i.bytes)) = some (some (.agg #[(.int .i64 0), (.int .i64 0)]), 2, 16) := by kernel_rfl
-- the values' own types
/-! #### struct type 41 -/
structure S41 where
 f0 : Int
 f1 : Int
def z41 : S41 := ⟨(0 : Int), (0 : Int)⟩
def k41 : Kd S41 := Kd.iso (Kd.pair (Kd.int .i64) (Kd.int .i64)) (fun x : S41 => (x.f0, x.f1))
theorem k41_open {w : World} {x : S41} {cs : List Value} (h : k41.K w x cs) : cs = [.int .i64 x.f0, .int .i64 x.f1] := by
 obtain ⟨_, _, rfl, rfl, rfl⟩ := h
 exact rfl
theorem k41_openM {w : World} {base : Nat} {ok : Nat → Prop} {x : S41} {cs : List Value} (h : k41.M w base ok x cs) : cs = [.int .i64 x.f0, .int .i64 x.f1] := by
 obtain ⟨_, _, rfl, rfl, rfl⟩ := h
 exact rfl
theorem k41_mkM (w : World) (base : Nat) (ok : Nat → Prop) (x : S41)  : k41.M w base ok x [.int .i64 x.f0, .int .i64 x.f1] := ⟨[.int .i64 x.f0], [.int .i64 x.f1], rfl, rfl, rfl⟩
def rd_T41 (xs : List S41) (i : Int) : S41 := xs.getD i.toNat z41
theorem at_T41 {w : World} {A : Option Addr} {n : Nat} {xs : List S41} (h : Kd.C k41 w A n xs) (i : Int) (h0 : 0 ≤ i) (h1 : i < n) : ∃ ad , A = some ad ∧ w.cell? (ad.add (i.toNat * 2)) = some (.int .i64 (rd_T41 xs i).f0) ∧ w.cell? ⟨(ad.add (i.toNat * 2)).block, (ad.add (i.toNat * 2)).off + 1, none⟩ = some (.int .i64 (rd_T41 xs i).f1) := by
 obtain ⟨ad, c, e, _, hK, hc0⟩ := Kd.C_get h z41 i h0 h1
 have hc : ∀ j u, c[j]? = some u → w.cell? (ad.add (i.toNat * 2 + j)) = some u := hc0
 obtain rfl := k41_open hK
 exact ⟨ad, e, hc 0 _ rfl, by rw [← add_field _ _ 1 (by omega)]; exact hc 1 _ rfl⟩

end Go.Proofs.YtfkcddambaadjaaDoor.P
namespace Go.Proofs.YtfkcddambaadjaaDoor.P
open Go.RowKit Go.Proofs.YtfkcddambaadjaaDoorW.PrintWords Go.Proofs.YtfkcddambaadjaaDoorW.PrintLast Go.Proofs.YtfkcddambaadjaaDoorW.PrintMore
attribute [local go_sem] max2_int min2_int max_two min_two max_three min_three max_four min_four   -- for this text's walks alone
set_option linter.unusedVariables false
set_option linter.unusedSimpArgs false

/-! ### impl_between: function 33 -/
def impl_between.f (a0 : Int) (a1 : Int) (a2 : Int) : Option (Bool) := if a0 ≥ a1 then (some (decide (a0 ≤ a2))) else (some false)
set_option maxHeartbeats 8000000 in
set_option maxRecDepth 100000 in
theorem impl_between.calls (a0 : Int) (a1 : Int) (a2 : Int) (r : Bool) (w : World) (h : impl_between.f a0 a1 a2 = some r) :
 Calls Tryd.prog 33 #[.int .i64 a0, .int .i64 a1, .int .i64 a2] w fun e w' => e = .returned (.bool r) ∧ Drawn0 w w' := by
 have H : (if a0 ≥ a1 then (some (decide (a0 ≤ a2))) else (some false)) = some r := h
 clear h
 by_cases c4 : a0 ≥ a1
 · rw [if_pos c4] at H
   have c4b0 : decide (a1 ≤ a0) = true := decide_eq_true c4
   clear c4
   obtain rfl := Option.some.inj H
   go_enter Tryd.func33, Tryd.ntmps33
   go_wp2
   go_ret
   exact ⟨by first | rfl | (simp; done) | (simp [*]; done), by repeat (first | exact Drawn0.refl _ | apply Drawn0.step)⟩
 · rw [if_neg c4] at H
   have c4b0 : decide (a1 ≤ a0) = false := decide_eq_false c4
   clear c4
   obtain rfl := Option.some.inj H
   go_enter Tryd.func33, Tryd.ntmps33
   go_wp2
   go_ret
   exact ⟨by first | rfl | (simp; done) | (simp [*]; done), by repeat (first | exact Drawn0.refl _ | apply Drawn0.step)⟩

end Go.Proofs.YtfkcddambaadjaaDoor.P
namespace Go.Proofs.YtfkcddambaadjaaDoor.P
open Go.RowKit Go.Proofs.YtfkcddambaadjaaDoorW.PrintWords Go.Proofs.YtfkcddambaadjaaDoorW.PrintLast Go.Proofs.YtfkcddambaadjaaDoorW.PrintMore
attribute [local go_sem] max2_int min2_int max_two min_two max_three min_three max_four min_four   -- for this text's walks alone
set_option linter.unusedVariables false
set_option linter.unusedSimpArgs false

/-! ### cmp_Or_int: function 53 -/
def cmp_Or_int.l0 : Nat → Int → List Int → Int → Int → Option (Int)
 | 0, _, _, _, _ => none
 | k + 1, x3, x6, x7, x8 => if x8 < x7 then (if 0 ≤ x8 then (if x8 < (x6.length : Int) then (if (rd x6 x8) = x3 then (cmp_Or_int.l0 k x3 x6 x7 (wrap64 (x8 + 1))) else (some (rd x6 x8))) else (none)) else (none)) else (some x3)
def cmp_Or_int.f (k : Nat) (l0 : List Int) : Option (Int) := cmp_Or_int.l0 k 0 l0 (l0.length : Int) 0
set_option maxHeartbeats 8000000 in
set_option maxRecDepth 100000 in
theorem cmp_Or_int.calls (k : Nat) (A0 : Option Addr) (c0 : Nat) (l0 : List Int) (r : Int) (w : World) (hr0 : Kd.C (Kd.int .i64) w A0 l0.length l0) (hc0 : l0.length ≤ c0) (h : cmp_Or_int.f k l0 = some r) :
 Calls Tryd.prog 53 #[.slice A0 l0.length c0] w fun e w' => e = .returned (.int .i64 r) ∧ Drawn0 w w' := by
 have HR0 := Aside0.mk hr0
 have HC0 := Aside0.mk hc0
 clear hr0 hc0
 have H : (cmp_Or_int.l0 k 0 l0 (l0.length : Int) 0) = some r := h
 clear h
 have H' := Aside0.mk H
 clear H
 go_enter Tryd.func53, Tryd.ntmps53
 go_wp2
 go_loopg [8] k (fun kq v8 w' => ∃ (x8_1 : Int), v8 = .int .i64 x8_1 ∧ Aside0 (cmp_Or_int.l0 kq 0 l0 (l0.length : Int) x8_1 = some r) ∧ Aside0 (kq ≤ k) ∧ Drawn0 w w')
 case atStart => exact ⟨(0), (by first | rfl | (simp; done) | (simp [*]; done)), H', ⟨Nat.le_refl _⟩, by repeat (first | exact Drawn0.refl _ | apply Drawn0.step)⟩
 case round =>
  clear H'
  obtain ⟨x8_1, rfl, HA, HK1, ⟨m1, rfl⟩⟩ := hrel
  cases gk with
  | zero => exact absurd HA.out (by simp [cmp_Or_int.l0])
  | succ k1 =>
   have H := HA.out
   clear HA
   simp only [cmp_Or_int.l0] at H
   by_cases c2 : x8_1 < (l0.length : Int)
   · rw [if_pos c2] at H
     have c2b0 := decide_eq_true c2
     clear c2
     by_cases c3 : 0 ≤ x8_1
     · rw [if_pos c3] at H
       have c3b0 := decide_eq_true c3
       clear c3
       by_cases c4 : x8_1 < (l0.length : Int)
       · rw [if_pos c4] at H
         have c4b0 := decide_eq_true c4
         clear c4
         by_cases c5 : (rd l0 x8_1) = 0
         · rw [if_pos c5] at H
           have c5b0 : ((rd l0 x8_1) == 0) = true := beq_iff_eq.mpr c5
           have c5b1 : ((rd l0 x8_1) != 0) = false := bne_eq_false_iff_eq.mpr c5
           clear c5
           have H' := Aside0.mk H
           clear H
           have p127 : 0 ≤ (x8_1 : Int) := of_decide_eq_true zA
           have q127 : x8_1 < (l0.length : Int) := of_decide_eq_true zA
           obtain ⟨ad127, e127, hx127_0⟩ := Kd.at_int HR0.out x8_1 p127 q127
           cases e127
           replace p127 := eq_true p127
           replace q127 := eq_true q127
           go_wp2
           go_roundg k1
           case measure => have := HK1.out; omega
           case rel => exact ⟨(wrap64 (x8_1 + 1)), (by first | rfl | (simp; done) | (simp [*]; done)), H', ⟨by have := HK1.out; omega⟩, by repeat (first | exact Drawn0.refl _ | apply Drawn0.step)⟩
         · rw [if_neg c5] at H
           have c5b0 : ((rd l0 x8_1) == 0) = false := beq_eq_false_iff_ne.mpr c5
           have c5b1 : ((rd l0 x8_1) != 0) = true := bne_iff_ne.mpr c5
           obtain rfl := Option.some.inj H
           have p127 : 0 ≤ (x8_1 : Int) := of_decide_eq_true zA
           have q127 : x8_1 < (l0.length : Int) := of_decide_eq_true zA
           obtain ⟨ad127, e127, hx127_0⟩ := Kd.at_int HR0.out x8_1 p127 q127
           cases e127
           replace p127 := eq_true p127
           replace q127 := eq_true q127
           go_wp2
           go_ret
           exact ⟨by first | rfl | (simp; done) | (simp [*]; done), by repeat (first | exact Drawn0.refl _ | apply Drawn0.step)⟩
       · rw [if_neg c4] at H
         exact absurd H (by simp)
     · rw [if_neg c3] at H
       exact absurd H (by simp)
   · rw [if_neg c2] at H
     have c2b0 : decide (x8_1 < (l0.length : Int)) = false := decide_eq_false c2
     clear c2
     obtain rfl := Option.some.inj H
     go_wp2
     go_ret
     exact ⟨by first | rfl | (simp; done) | (simp [*]; done), by repeat (first | exact Drawn0.refl _ | apply Drawn0.step)⟩

end Go.Proofs.YtfkcddambaadjaaDoor.P
namespace Go.Proofs.YtfkcddambaadjaaDoor.P
open Go.RowKit Go.Proofs.YtfkcddambaadjaaDoorW.PrintWords Go.Proofs.YtfkcddambaadjaaDoorW.PrintLast Go.Proofs.YtfkcddambaadjaaDoorW.PrintMore
attribute [local go_sem] max2_int min2_int max_two min_two max_three min_three max_four min_four   -- for this text's walks alone
set_option linter.unusedVariables false
set_option linter.unusedSimpArgs false

/-! ### cmp_isNaN_int: function 69 -/
def cmp_isNaN_int.f (a0 : Int) : Option (Bool) := some (a0 != a0)
set_option maxHeartbeats 8000000 in
set_option maxRecDepth 100000 in
theorem cmp_isNaN_int.calls (a0 : Int) (r : Bool) (w : World) (h : cmp_isNaN_int.f a0 = some r) :
 Calls Tryd.prog 69 #[.int .i64 a0] w fun e w' => e = .returned (.bool r) ∧ Drawn0 w w' := by
 have H : (some (a0 != a0)) = some r := h
 clear h
 obtain rfl := Option.some.inj H
 go_enter Tryd.func69, Tryd.ntmps69
 go_wp2
 go_ret
 exact ⟨by first | rfl | (simp; done) | (simp [*]; done), by repeat (first | exact Drawn0.refl _ | apply Drawn0.step)⟩

end Go.Proofs.YtfkcddambaadjaaDoor.P
namespace Go.Proofs.YtfkcddambaadjaaDoor.P
open Go.RowKit Go.Proofs.YtfkcddambaadjaaDoorW.PrintWords Go.Proofs.YtfkcddambaadjaaDoorW.PrintLast Go.Proofs.YtfkcddambaadjaaDoorW.PrintMore
attribute [local go_sem] max2_int min2_int max_two min_two max_three min_three max_four min_four   -- for this text's walks alone
set_option linter.unusedVariables false
set_option linter.unusedSimpArgs false

/-! ### cmp_Compare_int: function 54 -/
def cmp_Compare_int.f (a0 : Int) (a1 : Int) : Option (Int) := (cmp_isNaN_int.f a0).bind fun t128 => ((cmp_isNaN_int.f a1).bind fun t129 => (if t128 = true then (if t129 = true then (some 0) else (some (-1))) else (if t129 = true then (some 1) else (if a0 < a1 then (some (-1)) else (if a0 > a1 then (some 1) else (some 0))))))
set_option maxHeartbeats 8000000 in
set_option maxRecDepth 100000 in
theorem cmp_Compare_int.calls (a0 : Int) (a1 : Int) (r : Int) (w : World) (h : cmp_Compare_int.f a0 a1 = some r) :
 Calls Tryd.prog 54 #[.int .i64 a0, .int .i64 a1] w fun e w' => e = .returned (.int .i64 r) ∧ Drawn0 w w' := by
 have H : ((cmp_isNaN_int.f a0).bind fun t128 => ((cmp_isNaN_int.f a1).bind fun t129 => (if t128 = true then (if t129 = true then (some 0) else (some (-1))) else (if t129 = true then (some 1) else (if a0 < a1 then (some (-1)) else (if a0 > a1 then (some 1) else (some 0))))))) = some r := h
 clear h
 replace H := Option.bind_eq_some_iff.mp H
 obtain ⟨t128, A30, H⟩ := H
 have A3 := Aside0.mk A30
 clear A30
 replace H := Option.bind_eq_some_iff.mp H
 obtain ⟨t129, A40, H⟩ := H
 have A4 := Aside0.mk A40
 clear A40
 by_cases c5 : t128 = true
 · subst c5
   rw [if_pos rfl] at H
   by_cases c6 : t129 = true
   · subst c6
     rw [if_pos rfl] at H
     obtain rfl := Option.some.inj H
     go_enter Tryd.func54, Tryd.ntmps54
     go_wp2_with (first | ((with_reducible refine gate_callee (f := 69) rfl ?_); refine zc 8 Tryd.func69 #[.int .i64 a0] ?_; (with_reducible refine (cmp_isNaN_int.calls a0 true _ A3.out).mono ?_); rintro e w' ⟨rfl, ⟨nd, rfl⟩⟩; refine ⟨_, rfl, ?_⟩) | ((with_reducible refine gate_callee (f := 69) rfl ?_); refine zc 10 Tryd.func69 #[.int .i64 a1] ?_; (with_reducible refine (cmp_isNaN_int.calls a1 true _ A4.out).mono ?_); rintro e w' ⟨rfl, ⟨nd, rfl⟩⟩; refine ⟨_, rfl, ?_⟩))
     go_ret
     exact ⟨by first | rfl | (simp; done) | (simp [*]; done), by repeat (first | exact Drawn0.refl _ | apply Drawn0.step)⟩
   · replace c6 := Bool.eq_false_iff.mpr c6
     subst c6
     have H1 : (some (-1)) = some r := by rw [if_neg (show ¬ (false = true) by decide)] at H; exact H
     clear H
     have H := H1
     clear H1
     obtain rfl := Option.some.inj H
     go_enter Tryd.func54, Tryd.ntmps54
     go_wp2_with (first | ((with_reducible refine gate_callee (f := 69) rfl ?_); refine zc 8 Tryd.func69 #[.int .i64 a0] ?_; (with_reducible refine (cmp_isNaN_int.calls a0 true _ A3.out).mono ?_); rintro e w' ⟨rfl, ⟨nd, rfl⟩⟩; refine ⟨_, rfl, ?_⟩) | ((with_reducible refine gate_callee (f := 69) rfl ?_); refine zc 10 Tryd.func69 #[.int .i64 a1] ?_; (with_reducible refine (cmp_isNaN_int.calls a1 false _ A4.out).mono ?_); rintro e w' ⟨rfl, ⟨nd, rfl⟩⟩; refine ⟨_, rfl, ?_⟩))
     go_ret
     exact ⟨by first | rfl | (simp; done) | (simp [*]; done), by repeat (first | exact Drawn0.refl _ | apply Drawn0.step)⟩
 · replace c5 := Bool.eq_false_iff.mpr c5
   subst c5
   have H1 : (if t129 = true then (some 1) else (if a0 < a1 then (some (-1)) else (if a0 > a1 then (some 1) else (some 0)))) = some r := by rw [if_neg (show ¬ (false = true) by decide)] at H; exact H
   clear H
   have H := H1
   clear H1
   by_cases c7 : t129 = true
   · subst c7
     rw [if_pos rfl] at H
     obtain rfl := Option.some.inj H
     go_enter Tryd.func54, Tryd.ntmps54
     go_wp2_with (first | ((with_reducible refine gate_callee (f := 69) rfl ?_); refine zc 8 Tryd.func69 #[.int .i64 a0] ?_; (with_reducible refine (cmp_isNaN_int.calls a0 false _ A3.out).mono ?_); rintro e w' ⟨rfl, ⟨nd, rfl⟩⟩; refine ⟨_, rfl, ?_⟩) | ((with_reducible refine gate_callee (f := 69) rfl ?_); refine zc 10 Tryd.func69 #[.int .i64 a1] ?_; (with_reducible refine (cmp_isNaN_int.calls a1 true _ A4.out).mono ?_); rintro e w' ⟨rfl, ⟨nd, rfl⟩⟩; refine ⟨_, rfl, ?_⟩))
     go_ret
     exact ⟨by first | rfl | (simp; done) | (simp [*]; done), by repeat (first | exact Drawn0.refl _ | apply Drawn0.step)⟩
   · replace c7 := Bool.eq_false_iff.mpr c7
     subst c7
     have H1 : (if a0 < a1 then (some (-1)) else (if a0 > a1 then (some 1) else (some 0))) = some r := by rw [if_neg (show ¬ (false = true) by decide)] at H; exact H
     clear H
     have H := H1
     clear H1
     by_cases c8 : a0 < a1
     · rw [if_pos c8] at H
       have c8b0 := decide_eq_true c8
       clear c8
       obtain rfl := Option.some.inj H
       go_enter Tryd.func54, Tryd.ntmps54
       go_wp2_with (first | ((with_reducible refine gate_callee (f := 69) rfl ?_); refine zc 8 Tryd.func69 #[.int .i64 a0] ?_; (with_reducible refine (cmp_isNaN_int.calls a0 false _ A3.out).mono ?_); rintro e w' ⟨rfl, ⟨nd, rfl⟩⟩; refine ⟨_, rfl, ?_⟩) | ((with_reducible refine gate_callee (f := 69) rfl ?_); refine zc 10 Tryd.func69 #[.int .i64 a1] ?_; (with_reducible refine (cmp_isNaN_int.calls a1 false _ A4.out).mono ?_); rintro e w' ⟨rfl, ⟨nd, rfl⟩⟩; refine ⟨_, rfl, ?_⟩))
       go_ret
       exact ⟨by first | rfl | (simp; done) | (simp [*]; done), by repeat (first | exact Drawn0.refl _ | apply Drawn0.step)⟩
     · rw [if_neg c8] at H
       have c8b0 : decide (a0 < a1) = false := decide_eq_false c8
       clear c8
       by_cases c9 : a0 > a1
       · rw [if_pos c9] at H
         have c9b0 : decide (a1 < a0) = true := decide_eq_true c9
         clear c9
         obtain rfl := Option.some.inj H
         go_enter Tryd.func54, Tryd.ntmps54
         go_wp2_with (first | ((with_reducible refine gate_callee (f := 69) rfl ?_); refine zc 8 Tryd.func69 #[.int .i64 a0] ?_; (with_reducible refine (cmp_isNaN_int.calls a0 false _ A3.out).mono ?_); rintro e w' ⟨rfl, ⟨nd, rfl⟩⟩; refine ⟨_, rfl, ?_⟩) | ((with_reducible refine gate_callee (f := 69) rfl ?_); refine zc 10 Tryd.func69 #[.int .i64 a1] ?_; (with_reducible refine (cmp_isNaN_int.calls a1 false _ A4.out).mono ?_); rintro e w' ⟨rfl, ⟨nd, rfl⟩⟩; refine ⟨_, rfl, ?_⟩))
         go_ret
         exact ⟨by first | rfl | (simp; done) | (simp [*]; done), by repeat (first | exact Drawn0.refl _ | apply Drawn0.step)⟩
       · rw [if_neg c9] at H
         have c9b0 : decide (a1 < a0) = false := decide_eq_false c9
         clear c9
         obtain rfl := Option.some.inj H
         go_enter Tryd.func54, Tryd.ntmps54
         go_wp2_with (first | ((with_reducible refine gate_callee (f := 69) rfl ?_); refine zc 8 Tryd.func69 #[.int .i64 a0] ?_; (with_reducible refine (cmp_isNaN_int.calls a0 false _ A3.out).mono ?_); rintro e w' ⟨rfl, ⟨nd, rfl⟩⟩; refine ⟨_, rfl, ?_⟩) | ((with_reducible refine gate_callee (f := 69) rfl ?_); refine zc 10 Tryd.func69 #[.int .i64 a1] ?_; (with_reducible refine (cmp_isNaN_int.calls a1 false _ A4.out).mono ?_); rintro e w' ⟨rfl, ⟨nd, rfl⟩⟩; refine ⟨_, rfl, ?_⟩))
         go_ret
         exact ⟨by first | rfl | (simp; done) | (simp [*]; done), by repeat (first | exact Drawn0.refl _ | apply Drawn0.step)⟩

end Go.Proofs.YtfkcddambaadjaaDoor.P
namespace Go.Proofs.YtfkcddambaadjaaDoor.P
open Go.RowKit Go.Proofs.YtfkcddambaadjaaDoorW.PrintWords Go.Proofs.YtfkcddambaadjaaDoorW.PrintLast Go.Proofs.YtfkcddambaadjaaDoorW.PrintMore
attribute [local go_sem] max2_int min2_int max_two min_two max_three min_three max_four min_four   -- for this text's walks alone
set_option linter.unusedVariables false
set_option linter.unusedSimpArgs false

/-! ### impl_comparePairs: function 42 -/
def impl_comparePairs.f (k : Nat) (a0_0 : Int) (a0_1 : Int) (a1_0 : Int) (a1_1 : Int) : Option (Int) := (cmp_Compare_int.f a0_0 a1_0).bind fun t132 => ((cmp_Compare_int.f a0_1 a1_1).bind fun t133 => ((cmp_Or_int.f k (([t132, t133] : List Int))).bind fun t137 => (some t137)))
def impl_comparePairs.T1 : Bool × List (List Nat × List Nat) := (true, [([], []), ([0], [0]), ([], []), ([2], [2]), ([1, 3], [1, 3]), ([], []), ([5], [5]), ([], []), ([7], [7]), ([6, 8, 4], [6, 8]), ([4, 9], [4, 9]), ([10, 9], [10]), ([11, 11, 0, 1, 2, 3, 4, 5, 6, 7, 8, 9, 10, 11], [11])])
def impl_comparePairs.B1 : List Nat := [0, 1, 0, 4, 15, 0, 32, 0, 128, 511, 1023, 2047, 4095]
theorem impl_comparePairs.tab1 : rtab .any (opsOf Tryd.f42 1) = impl_comparePairs.T1 := by kernel_rfl
theorem impl_comparePairs.bits1 : waitsOk impl_comparePairs.T1.2 impl_comparePairs.B1 = true := by kernel_rfl
set_option maxHeartbeats 8000000 in
set_option maxRecDepth 100000 in
theorem impl_comparePairs.calls (k : Nat) (a0_0 : Int) (a0_1 : Int) (a1_0 : Int) (a1_1 : Int) (r : Int) (w : World) (h : impl_comparePairs.f k a0_0 a0_1 a1_0 a1_1 = some r) :
 Calls Tryd.prog 42 #[.agg #[.int .i64 a0_0, .int .i64 a0_1], .agg #[.int .i64 a1_0, .int .i64 a1_1]] w fun e w' => e = .returned (.int .i64 r) ∧ Below w.heap.size w w' := by
 have hu41 := Tryd.underlying41
 have HB := zM (Below.refl w.heap.size w)
 have H : ((cmp_Compare_int.f a0_0 a1_0).bind fun t132 => ((cmp_Compare_int.f a0_1 a1_1).bind fun t133 => ((cmp_Or_int.f k (([t132, t133] : List Int))).bind fun t137 => (some t137)))) = some r := h
 clear h
 replace H := Option.bind_eq_some_iff.mp H
 obtain ⟨t132, A30, H⟩ := H
 have A3 := Aside0.mk A30
 clear A30
 replace H := Option.bind_eq_some_iff.mp H
 obtain ⟨t133, A40, H⟩ := H
 have A4 := Aside0.mk A40
 clear A40
 obtain ⟨y134, hy134⟩ : ∃ y_ : List Int, y_ = (([t132, t133] : List Int)) := ⟨_, rfl⟩
 replace H : ((cmp_Or_int.f k y134).bind fun t137 => (some t137)) = some r := by first | (rw [hy134]; with_reducible exact H) | (have H2_ := (Option.bind_some _ _).symm.trans H; rw [hy134]; with_reducible exact H2_) | (have H2_ := (Option.bind_some _ _).symm.trans H; with_reducible exact H2_) | with_reducible exact H | (rw [hy134]; exact H) | exact H
 have Ny134 := Aside0.mk hy134
 clear hy134
 replace H := Option.bind_eq_some_iff.mp H
 obtain ⟨t137, A50, H⟩ := H
 have A5 := Aside0.mk A50
 clear A50
 obtain rfl := Option.some.inj H
 go_enter Tryd.func42, Tryd.ntmps42
 try go_wp2_with (first | ((with_reducible refine gate_dst (N := 2) rfl ?_); refine zb (w := w) 2 #[.int .i64 a0_0, .int .i64 a0_1] 41 zB ?_; clear HB; intro gb130 w6 HB BK130 GW130; have GE130 := GW130) | ((with_reducible refine gate_dst (N := 3) rfl ?_); refine ze 3 #[.int .i64 a1_0, .int .i64 a1_1] 41 ?_; intro gb131 hg w7 hbox hb; have BK131 := zM (hbox); have GW131 := zM ((by rw [hg]; exact (below_size zB) : w.heap.size ≤ gb131)); have GE131 := zM ((by rw [hg]; exact (below_size zB) : w.heap.size ≤ gb131)); replace HB := zM (below_step zB hb); have NB130_131 := zM ((by rw [hg]; exact Nat.ne_of_lt (blk_lt (g := gb130) (o := .cells #[.int .i64 a0_0, .int .i64 a0_1] 41 (0, 0)) (zK BK130.out)) : gb130 ≠ gb131)); have NB131_130 := zM ((by rw [hg]; exact Nat.ne_of_gt (blk_lt (g := gb130) (o := .cells #[.int .i64 a0_0, .int .i64 a0_1] 41 (0, 0)) (zK BK130.out)) : gb131 ≠ gb130)); replace BK130 := zM (blk_below (g := gb130) (o := .cells #[.int .i64 a0_0, .int .i64 a0_1] 41 (0, 0)) (zK BK130.out) hb); clear hb hbox hg))
 replace BK130 := zM (blk_drew BK130.out)
 replace BK131 := zM (blk_drew BK131.out)
 replace HB := zM (below_drew1 HB.out)
 refine zs (n := 13) (fun w' => w'.cell? ⟨gb130, 0, none⟩ = some (.int .i64 a0_0) ∧ w'.cell? ⟨gb130, 1, none⟩ = some (.int .i64 a0_1) ∧ w'.cell? ⟨gb131, 0, none⟩ = some (.int .i64 a1_0) ∧ w'.cell? ⟨gb131, 1, none⟩ = some (.int .i64 a1_1)) ⟨(blk_cell BK130.out 0).trans rfl, (blk_cell BK130.out 1).trans rfl, (blk_cell BK131.out 0).trans rfl, (blk_cell BK131.out 1).trans rfl⟩ (fun hHeld => ?_); refine with_tabW impl_comparePairs.tab1 impl_comparePairs.bits1 (fun HT_ HW_ => ?_)
 generalize w7.drew = w8 at BK130 BK131 HB hHeld ⊢
 refine zp HT_ 0 5 ?_
 refine zp HT_ 2 7 ?_
 refine zp HT_ 5 10 ?_
 refine zp HT_ 7 12 ?_
 refine zt HT_ HW_ 1 6 hHeld ?_ (hy := by rintro w' ⟨s0, s1, s2, s3⟩; go_simp; with_reducible rfl)
 refine zt HT_ HW_ 3 8 hHeld ?_ (hy := by rintro w' ⟨s0, s1, s2, s3⟩; go_simp; with_reducible rfl)
 refine zt HT_ HW_ 6 11 hHeld ?_ (hy := by rintro w' ⟨s0, s1, s2, s3⟩; go_simp; with_reducible rfl)
 refine zt HT_ HW_ 8 13 hHeld ?_ (hy := by rintro w' ⟨s0, s1, s2, s3⟩; go_simp; with_reducible rfl)
 refine zg HT_ 4 9 Tryd.func54 #[.int .i64 a0_0, .int .i64 a1_0] (fun K hK => ?_)
 with_reducible refine (cmp_Compare_int.calls a0_0 a1_0 t132 _ A3.out).mono ?_
 rintro e w' ⟨rfl, ⟨nd, rfl⟩⟩
 refine ⟨_, rfl, ?_⟩
 refine hK.out _ _ ⟨(blk_cell BK130.out 0).trans rfl, (blk_cell BK130.out 1).trans rfl, (blk_cell BK131.out 0).trans rfl, (blk_cell BK131.out 1).trans rfl⟩ (fun hHeld => ?_)
 clear hK K
 refine zn 9 ?_
 refine zg HT_ 9 14 Tryd.func54 #[.int .i64 a0_1, .int .i64 a1_1] (fun K hK => ?_)
 with_reducible refine (cmp_Compare_int.calls a0_1 a1_1 t133 _ A4.out).mono ?_
 rintro e w' ⟨rfl, ⟨nd, rfl⟩⟩
 refine ⟨_, rfl, ?_⟩
 refine hK.out _ _ ⟨(blk_cell BK130.out 0).trans rfl, (blk_cell BK130.out 1).trans rfl, (blk_cell BK131.out 0).trans rfl, (blk_cell BK131.out 1).trans rfl⟩ (fun hHeld => ?_)
 clear hK K
 refine zn 14 ?_
 refine one_ (i := 10) (N := some 15) #[true, true, true, true, true, true, true, true, true, true, true, false, false] rfl rfl (one_of HT_.out (by kernel_rfl)) (by decide) (fun K hK => ?_)
 refine Kd.R_lit_step (Kd.int .i64) _ 3 ?hg (N := 15) ?hd (xs := ([t132, t133] : List Int)) (inner := [.int .i64 t132, .int .i64 t133]) (ok := fun _ => True) (okp := fun _ => True) ?hr ?hp (fun _ hk => hk) trivial (Below.refl _ _) (Nat.le_refl _) (by simp) ?_; (case hd => rfl); (case hg => rfl); (case hr => first | (go_simp; done) | (go_simp; rfl)); (case hp => exact (Reps.one (show Kd.M (Kd.int .i64) _ _ _ t132 [.int .i64 t132] from rfl) (Reps.one (show Kd.M (Kd.int .i64) _ _ _ t133 [.int .i64 t133] from rfl) (Reps.none _ _))))
 intro v135 w9 ho10 hb hg_ hnew_
 clear hg_ hnew_
 (first | rw [← Ny134.out] at ho10 | (simp only [Int.reduceToNat] at ho10; rw [← Ny134.out] at ho10))
 have HO136 := zM (Kd.R_lower ho10 (below_size zB))
 replace BK130 := zM (blk_below (g := gb130) (o := .cells #[.int .i64 a0_0, .int .i64 a0_1] 41 (0, 0)) (zK BK130.out) hb)
 replace BK131 := zM (blk_below (g := gb131) (o := .cells #[.int .i64 a1_0, .int .i64 a1_1] 41 (0, 0)) (zK BK131.out) hb)
 replace HB := zM (below_step zB hb)
 clear hb ho10
 obtain ⟨Ao11, co11, eo11⟩ := Kd.R_slice HO136.out
 (first | subst eo11 | (injection eo11 with f1_ f2_ f3_; have f4_ := f1_.symm; have f5_ := f3_.symm; clear f1_ f2_ f3_; subst f4_; subst f5_))
 refine hK.out _ _ ⟨(blk_cell BK130.out 0).trans rfl, (blk_cell BK130.out 1).trans rfl, (blk_cell BK131.out 0).trans rfl, (blk_cell BK131.out 1).trans rfl⟩ (fun hHeld => ?_)
 clear hK K
 refine zn 15 ?_
 refine zg HT_ 11 16 Tryd.func53 #[.slice Ao11 y134.length co11] (fun K hK => ?_)
 with_reducible refine (cmp_Or_int.calls k _ _ y134 t137 _ ?side1 ?side2 A5.out).mono ?_
 (case side1 => exact zC (Kd.R_reads' HO136.out).2.2)
 (case side2 => exact (Kd.R_reads' HO136.out).2.1)
 rintro e w' ⟨rfl, ⟨nd, rfl⟩⟩
 refine ⟨_, rfl, ?_⟩
 refine hK.out _ _ ⟨(blk_cell BK130.out 0).trans rfl, (blk_cell BK130.out 1).trans rfl, (blk_cell BK131.out 0).trans rfl, (blk_cell BK131.out 1).trans rfl⟩ (fun hHeld => ?_)
 clear hK K
 refine zn 16 ?_
 refine zp HT_ 12 4 ?_
 refine zo HT_ ?_
 try go_wp2
 go_ret
 exact ⟨by first | rfl | (simp [errW_none, errW_some] <;> rfl) | (simp [*, errW_none, errW_some] <;> rfl), zB⟩

end Go.Proofs.YtfkcddambaadjaaDoor.P
namespace Go.Proofs.YtfkcddambaadjaaDoor.P
open Go.RowKit Go.Proofs.YtfkcddambaadjaaDoorW.PrintWords Go.Proofs.YtfkcddambaadjaaDoorW.PrintLast Go.Proofs.YtfkcddambaadjaaDoorW.PrintMore
attribute [local go_sem] max2_int min2_int max_two min_two max_three min_three max_four min_four   -- for this text's walks alone
set_option linter.unusedVariables false
set_option linter.unusedSimpArgs false

/-! ### impl_isPairs: function 34 -/
def impl_isPairs.l0 : Nat → List (S41) → Int → List (S41) → Int → Int → Option (Bool)
 | 0, _, _, _, _, _ => none
 | k + 1, x0, x1, x7, x8, x9 => if x9 < x8 then (if 0 ≤ x9 then (if x9 < (x7.length : Int) then (if ((rd_T41 x7 x9).f0) < 0 then (some false) else (if ((rd_T41 x7 x9).f0) ≥ ((rd_T41 x7 x9).f1) then (some false) else (if ((rd_T41 x7 x9).f1) ≥ x1 then (some false) else (if x9 > 0 then (if 0 ≤ (wrap64 (x9 - 1)) then (if (wrap64 (x9 - 1)) < (x0.length : Int) then ((impl_comparePairs.f k ((rd_T41 x0 (wrap64 (x9 - 1))).f0) ((rd_T41 x0 (wrap64 (x9 - 1))).f1) ((rd_T41 x7 x9).f0) ((rd_T41 x7 x9).f1)).bind fun t141 => (if t141 ≥ 0 then (some false) else (impl_isPairs.l0 k x0 x1 x7 x8 (wrap64 (x9 + 1))))) else (none)) else (none)) else (impl_isPairs.l0 k x0 x1 x7 x8 (wrap64 (x9 + 1))))))) else (none)) else (none)) else (some true)
def impl_isPairs.f (k : Nat) (l0 : List (S41)) (a1 : Int) : Option (Bool) := impl_isPairs.l0 k l0 a1 l0 (l0.length : Int) 0
def impl_isPairs.T4 : Bool × List (List Nat × List Nat) := (true, [([], []), ([0], [0]), ([1], [1]), ([2], [2]), ([3], [3]), ([4, 3], [3, 4]), ([3], [3]), ([6, 3], [3, 6]), ([5, 7, 3], [3, 5, 7]), ([3, 8], [3, 8]), ([9, 3], [9]), ([10], [10]), ([11, 10], [10, 11]), ([10], [10]), ([12, 13, 10], [10, 12, 13]), ([10, 14], [10, 14]), ([15, 10], [15]), ([16], [16]), ([17, 16], [16, 17]), ([18, 16, 16], [16, 18]), ([19], [19]), ([19], [19]), ([21, 19], [19, 21]), ([20, 22, 19], [19, 20, 22]), ([23, 19], [19, 23]), ([19], [19]), ([24, 25, 19, 19], [19, 24, 25]), ([26, 19], [19, 26]), ([19, 27, 16], [16, 19, 27]), ([16, 28], [16, 28])])
def impl_isPairs.B4 : List Nat := [0, 1, 3, 7, 15, 31, 15, 79, 255, 511, 1023, 2047, 4095, 2047, 16383, 32767, 65535, 131071, 262143, 524287, 1048575, 1048575, 3145727, 8388607, 16777215, 1048575, 67108863, 134217727, 268435455, 536870911]
theorem impl_isPairs.tab4 : rtab .any (opsOf Tryd.f34 4) = impl_isPairs.T4 := by kernel_rfl
theorem impl_isPairs.bits4 : waitsOk impl_isPairs.T4.2 impl_isPairs.B4 = true := by kernel_rfl
set_option maxHeartbeats 8000000 in
set_option maxRecDepth 100000 in
theorem impl_isPairs.calls (k : Nat) (A0 : Option Addr) (c0 : Nat) (l0 : List (S41)) (a1 : Int) (r : Bool) (w : World) (hr0 : Kd.C k41 w A0 l0.length l0) (hc0 : l0.length ≤ c0) (h : impl_isPairs.f k l0 a1 = some r) :
 Calls Tryd.prog 34 #[.slice A0 l0.length c0, .int .i64 a1] w fun e w' => e = .returned (.bool r) ∧ Below w.heap.size w w' := by
 have hu41 := Tryd.underlying41
 have HR0 := Aside0.mk hr0
 have HC0 := Aside0.mk hc0
 clear hr0 hc0
 have HB := zM (Below.refl w.heap.size w)
 have H : (impl_isPairs.l0 k l0 a1 l0 (l0.length : Int) 0) = some r := h
 clear h
 have H' := Aside0.mk H
 clear H
 go_enter Tryd.func34, Tryd.ntmps34
 go_wp2
 go_loopg [9] k (fun kq v9 w' => ∃ (x9_1 : Int), v9 = .int .i64 x9_1 ∧ Aside0 (impl_isPairs.l0 kq l0 a1 l0 (l0.length : Int) x9_1 = some r) ∧ Aside0 (kq ≤ k) ∧ Aside0 (Below w.heap.size w w'))
 case atStart => exact ⟨(0), (by first | rfl | (simp; done) | (simp [*]; done)), H', ⟨Nat.le_refl _⟩, ⟨zB⟩⟩
 case round =>
  clear H'
  try clear p2
  obtain ⟨x9_1, rfl, HA, HK1, HB⟩ := hrel
  cases gk with
  | zero => exact absurd HA.out (by simp [impl_isPairs.l0])
  | succ k1 =>
   have H := HA.out
   clear HA
   simp only [impl_isPairs.l0] at H
   by_cases c3 : x9_1 < (l0.length : Int)
   · rw [if_pos c3] at H
     have c3b0 := decide_eq_true c3
     clear c3
     by_cases c4 : 0 ≤ x9_1
     · rw [if_pos c4] at H
       have c4b0 := decide_eq_true c4
       clear c4
       by_cases c5 : x9_1 < (l0.length : Int)
       · rw [if_pos c5] at H
         have c5b0 := decide_eq_true c5
         clear c5
         by_cases c6 : ((rd_T41 l0 x9_1).f0) < 0
         · rw [if_pos c6] at H
           have c6b0 := decide_eq_true c6
           clear c6
           obtain rfl := Option.some.inj H
           have p138 : 0 ≤ (x9_1 : Int) := of_decide_eq_true zA
           have q138 : x9_1 < (l0.length : Int) := of_decide_eq_true zA
           obtain ⟨ad138, e138, hx138_0, hx138_1⟩ := at_T41 HR0.out x9_1 p138 q138
           cases e138
           (try replace hx138_0 := (HB.out.cell (World.block_lt_of_cell? w _ hx138_0)).trans hx138_0)
           (try replace hx138_1 := (HB.out.cell (World.block_lt_of_cell? w _ hx138_1)).trans hx138_1)
           replace p138 := eq_true p138
           replace q138 := eq_true q138
           try go_wp2_with (first | ((with_reducible refine gate_dst (N := 6) rfl ?_); refine zb (w := w) 6 #[.int .i64 0, .int .i64 0] 41 zB ?_; clear HB; intro gb139 w7 HB BK139 GW139; have GE139 := GW139; have hcz8_0 := zy BK139 0; have hcz8_1 := zy BK139 1; have hfz8_0 := blk_frozen BK139.out 0; have hfz8_1 := blk_frozen BK139.out 1))
           have n0_ : Aside0 (((w7.setCell ⟨gb139, 0, none⟩ (.int .i64 ((rd_T41 l0 x9_1).f0))).setCell ⟨gb139, 1, none⟩ (.int .i64 ((rd_T41 l0 x9_1).f1))).heap[gb139]? = some (.cells #[.int .i64 ((rd_T41 l0 x9_1).f0), .int .i64 ((rd_T41 l0 x9_1).f1)] 41 (0, 0))) := ⟨by (with_reducible repeat (first | refine blk_drewN ?_ _ | refine blk_drew ?_ | refine blk_alloc ?_ _)); refine blk_put (cs := #[.int .i64 ((rd_T41 l0 x9_1).f0), .int .i64 0]) ?_ 1 _ rfl; (with_reducible repeat (first | refine blk_drewN ?_ _ | refine blk_drew ?_ | refine blk_alloc ?_ _)); refine blk_put (cs := #[.int .i64 0, .int .i64 0]) ?_ 0 _ rfl; (with_reducible repeat (first | refine blk_drewN ?_ _ | refine blk_drew ?_ | refine blk_alloc ?_ _)); exact BK139.out⟩
           have n1_ : Aside0 (Below w.heap.size w ((w7.setCell ⟨gb139, 0, none⟩ (.int .i64 ((rd_T41 l0 x9_1).f0))).setCell ⟨gb139, 1, none⟩ (.int .i64 ((rd_T41 l0 x9_1).f1)))) := ⟨zB⟩
           (try clear BK139)
           (try clear HB)
           generalize ((w7.setCell ⟨gb139, 0, none⟩ (.int .i64 ((rd_T41 l0 x9_1).f0))).setCell ⟨gb139, 1, none⟩ (.int .i64 ((rd_T41 l0 x9_1).f1))) = w9 at n0_ n1_ ⊢
           have BK139 := n0_
           have HB := n1_
           clear n0_ n1_
           replace BK139 := zM (blk_drew BK139.out)
           replace HB := zM (below_drew1 HB.out)
           refine zs (n := 30) (fun w' => w'.cell? ⟨gb139, 0, none⟩ = some (.int .i64 ((rd_T41 l0 x9_1).f0)) ∧ w'.cell? ⟨gb139, 1, none⟩ = some (.int .i64 ((rd_T41 l0 x9_1).f1))) ⟨(blk_cell BK139.out 0).trans rfl, (blk_cell BK139.out 1).trans rfl⟩ (fun hHeld => ?_); refine with_tabW impl_isPairs.tab4 impl_isPairs.bits4 (fun HT_ HW_ => ?_)
           generalize w9.drew = w10 at BK139 HB hHeld ⊢
           refine zp HT_ 0 14 ?_
           refine zt HT_ HW_ 1 15 hHeld ?_ (hy := by rintro w' ⟨s0, s1⟩; go_simp; with_reducible rfl)
           refine zp HT_ 2 16 ?_
           refine zp HT_ 3 17 ?_
           refine zu HT_ 4 18 ?_
           refine zu HT_ 5 19 ?_
           refine zu HT_ 6 20 ?_
           refine zu HT_ 7 21 ?_
           refine zu HT_ 8 22 ?_
           refine zp HT_ 9 23 ?_
           refine zp HT_ 10 24 ?_
           refine zu HT_ 11 25 ?_
           refine zu HT_ 12 26 ?_
           refine zu HT_ 13 27 ?_
           refine zu HT_ 14 28 ?_
           refine zp HT_ 15 29 ?_
           refine zp HT_ 16 30 ?_
           refine zu HT_ 17 31 ?_
           refine zu HT_ 18 32 ?_
           refine zu HT_ 19 33 ?_
           refine zu HT_ 20 34 ?_
           refine zu HT_ 21 35 ?_
           refine zu HT_ 22 36 ?_
           refine zu HT_ 23 37 ?_
           refine zu HT_ 24 38 ?_
           refine zu HT_ 25 39 ?_
           refine zu HT_ 26 40 ?_
           refine zu HT_ 27 41 ?_
           refine zu HT_ 28 42 ?_
           refine zp HT_ 29 43 ?_
           refine zo HT_ ?_
           try go_wp2
           go_ret
           exact ⟨by first | rfl | (simp [errW_none, errW_some] <;> rfl) | (simp [*, errW_none, errW_some] <;> rfl), zB⟩
         · rw [if_neg c6] at H
           have c6b0 : decide (((rd_T41 l0 x9_1).f0) < 0) = false := decide_eq_false c6
           clear c6
           by_cases c11 : ((rd_T41 l0 x9_1).f0) ≥ ((rd_T41 l0 x9_1).f1)
           · rw [if_pos c11] at H
             have c11b0 : decide (((rd_T41 l0 x9_1).f1) ≤ ((rd_T41 l0 x9_1).f0)) = true := decide_eq_true c11
             clear c11
             obtain rfl := Option.some.inj H
             have p138 : 0 ≤ (x9_1 : Int) := of_decide_eq_true zA
             have q138 : x9_1 < (l0.length : Int) := of_decide_eq_true zA
             obtain ⟨ad138, e138, hx138_0, hx138_1⟩ := at_T41 HR0.out x9_1 p138 q138
             cases e138
             (try replace hx138_0 := (HB.out.cell (World.block_lt_of_cell? w _ hx138_0)).trans hx138_0)
             (try replace hx138_1 := (HB.out.cell (World.block_lt_of_cell? w _ hx138_1)).trans hx138_1)
             replace p138 := eq_true p138
             replace q138 := eq_true q138
             try go_wp2_with (first | ((with_reducible refine gate_dst (N := 6) rfl ?_); refine zb (w := w) 6 #[.int .i64 0, .int .i64 0] 41 zB ?_; clear HB; intro gb139 w12 HB BK139 GW139; have GE139 := GW139; have hcz13_0 := zy BK139 0; have hcz13_1 := zy BK139 1; have hfz13_0 := blk_frozen BK139.out 0; have hfz13_1 := blk_frozen BK139.out 1))
             have n0_ : Aside0 (((w12.setCell ⟨gb139, 0, none⟩ (.int .i64 ((rd_T41 l0 x9_1).f0))).setCell ⟨gb139, 1, none⟩ (.int .i64 ((rd_T41 l0 x9_1).f1))).heap[gb139]? = some (.cells #[.int .i64 ((rd_T41 l0 x9_1).f0), .int .i64 ((rd_T41 l0 x9_1).f1)] 41 (0, 0))) := ⟨by (with_reducible repeat (first | refine blk_drewN ?_ _ | refine blk_drew ?_ | refine blk_alloc ?_ _)); refine blk_put (cs := #[.int .i64 ((rd_T41 l0 x9_1).f0), .int .i64 0]) ?_ 1 _ rfl; (with_reducible repeat (first | refine blk_drewN ?_ _ | refine blk_drew ?_ | refine blk_alloc ?_ _)); refine blk_put (cs := #[.int .i64 0, .int .i64 0]) ?_ 0 _ rfl; (with_reducible repeat (first | refine blk_drewN ?_ _ | refine blk_drew ?_ | refine blk_alloc ?_ _)); exact BK139.out⟩
             have n1_ : Aside0 (Below w.heap.size w ((w12.setCell ⟨gb139, 0, none⟩ (.int .i64 ((rd_T41 l0 x9_1).f0))).setCell ⟨gb139, 1, none⟩ (.int .i64 ((rd_T41 l0 x9_1).f1)))) := ⟨zB⟩
             (try clear BK139)
             (try clear HB)
             generalize ((w12.setCell ⟨gb139, 0, none⟩ (.int .i64 ((rd_T41 l0 x9_1).f0))).setCell ⟨gb139, 1, none⟩ (.int .i64 ((rd_T41 l0 x9_1).f1))) = w14 at n0_ n1_ ⊢
             have BK139 := n0_
             have HB := n1_
             clear n0_ n1_
             replace BK139 := zM (blk_drew BK139.out)
             replace HB := zM (below_drew1 HB.out)
             refine zs (n := 30) (fun w' => w'.cell? ⟨gb139, 0, none⟩ = some (.int .i64 ((rd_T41 l0 x9_1).f0)) ∧ w'.cell? ⟨gb139, 1, none⟩ = some (.int .i64 ((rd_T41 l0 x9_1).f1))) ⟨(blk_cell BK139.out 0).trans rfl, (blk_cell BK139.out 1).trans rfl⟩ (fun hHeld => ?_); refine with_tabW impl_isPairs.tab4 impl_isPairs.bits4 (fun HT_ HW_ => ?_)
             generalize w14.drew = w15 at BK139 HB hHeld ⊢
             refine zp HT_ 0 14 ?_
             refine zt HT_ HW_ 1 15 hHeld ?_ (hy := by rintro w' ⟨s0, s1⟩; go_simp; with_reducible rfl)
             refine zp HT_ 2 16 ?_
             refine zp HT_ 3 17 ?_
             refine zp HT_ 4 18 ?_
             refine zp HT_ 6 20 ?_
             refine zt HT_ HW_ 5 19 hHeld ?_ (hy := by rintro w' ⟨s0, s1⟩; go_simp; with_reducible rfl)
             refine zt HT_ HW_ 7 21 hHeld ?_ (hy := by rintro w' ⟨s0, s1⟩; go_simp; with_reducible rfl)
             refine zp HT_ 8 22 ?_
             refine zp HT_ 9 23 ?_
             refine zp HT_ 10 24 ?_
             refine zu HT_ 11 25 ?_
             refine zu HT_ 12 26 ?_
             refine zu HT_ 13 27 ?_
             refine zu HT_ 14 28 ?_
             refine zp HT_ 15 29 ?_
             refine zp HT_ 16 30 ?_
             refine zu HT_ 17 31 ?_
             refine zu HT_ 18 32 ?_
             refine zu HT_ 19 33 ?_
             refine zu HT_ 20 34 ?_
             refine zu HT_ 21 35 ?_
             refine zu HT_ 22 36 ?_
             refine zu HT_ 23 37 ?_
             refine zu HT_ 24 38 ?_
             refine zu HT_ 25 39 ?_
             refine zu HT_ 26 40 ?_
             refine zu HT_ 27 41 ?_
             refine zu HT_ 28 42 ?_
             refine zp HT_ 29 43 ?_
             refine zo HT_ ?_
             try go_wp2
             go_ret
             exact ⟨by first | rfl | (simp [errW_none, errW_some] <;> rfl) | (simp [*, errW_none, errW_some] <;> rfl), zB⟩
           · rw [if_neg c11] at H
             have c11b0 : decide (((rd_T41 l0 x9_1).f1) ≤ ((rd_T41 l0 x9_1).f0)) = false := decide_eq_false c11
             clear c11
             by_cases c16 : ((rd_T41 l0 x9_1).f1) ≥ a1
             · rw [if_pos c16] at H
               have c16b0 : decide (a1 ≤ ((rd_T41 l0 x9_1).f1)) = true := decide_eq_true c16
               clear c16
               obtain rfl := Option.some.inj H
               have p138 : 0 ≤ (x9_1 : Int) := of_decide_eq_true zA
               have q138 : x9_1 < (l0.length : Int) := of_decide_eq_true zA
               obtain ⟨ad138, e138, hx138_0, hx138_1⟩ := at_T41 HR0.out x9_1 p138 q138
               cases e138
               (try replace hx138_0 := (HB.out.cell (World.block_lt_of_cell? w _ hx138_0)).trans hx138_0)
               (try replace hx138_1 := (HB.out.cell (World.block_lt_of_cell? w _ hx138_1)).trans hx138_1)
               replace p138 := eq_true p138
               replace q138 := eq_true q138
               try go_wp2_with (first | ((with_reducible refine gate_dst (N := 6) rfl ?_); refine zb (w := w) 6 #[.int .i64 0, .int .i64 0] 41 zB ?_; clear HB; intro gb139 w17 HB BK139 GW139; have GE139 := GW139; have hcz18_0 := zy BK139 0; have hcz18_1 := zy BK139 1; have hfz18_0 := blk_frozen BK139.out 0; have hfz18_1 := blk_frozen BK139.out 1))
               have n0_ : Aside0 (((w17.setCell ⟨gb139, 0, none⟩ (.int .i64 ((rd_T41 l0 x9_1).f0))).setCell ⟨gb139, 1, none⟩ (.int .i64 ((rd_T41 l0 x9_1).f1))).heap[gb139]? = some (.cells #[.int .i64 ((rd_T41 l0 x9_1).f0), .int .i64 ((rd_T41 l0 x9_1).f1)] 41 (0, 0))) := ⟨by (with_reducible repeat (first | refine blk_drewN ?_ _ | refine blk_drew ?_ | refine blk_alloc ?_ _)); refine blk_put (cs := #[.int .i64 ((rd_T41 l0 x9_1).f0), .int .i64 0]) ?_ 1 _ rfl; (with_reducible repeat (first | refine blk_drewN ?_ _ | refine blk_drew ?_ | refine blk_alloc ?_ _)); refine blk_put (cs := #[.int .i64 0, .int .i64 0]) ?_ 0 _ rfl; (with_reducible repeat (first | refine blk_drewN ?_ _ | refine blk_drew ?_ | refine blk_alloc ?_ _)); exact BK139.out⟩
               have n1_ : Aside0 (Below w.heap.size w ((w17.setCell ⟨gb139, 0, none⟩ (.int .i64 ((rd_T41 l0 x9_1).f0))).setCell ⟨gb139, 1, none⟩ (.int .i64 ((rd_T41 l0 x9_1).f1)))) := ⟨zB⟩
               (try clear BK139)
               (try clear HB)
               generalize ((w17.setCell ⟨gb139, 0, none⟩ (.int .i64 ((rd_T41 l0 x9_1).f0))).setCell ⟨gb139, 1, none⟩ (.int .i64 ((rd_T41 l0 x9_1).f1))) = w19 at n0_ n1_ ⊢
               have BK139 := n0_
               have HB := n1_
               clear n0_ n1_
               replace BK139 := zM (blk_drew BK139.out)
               replace HB := zM (below_drew1 HB.out)
               refine zs (n := 30) (fun w' => w'.cell? ⟨gb139, 0, none⟩ = some (.int .i64 ((rd_T41 l0 x9_1).f0)) ∧ w'.cell? ⟨gb139, 1, none⟩ = some (.int .i64 ((rd_T41 l0 x9_1).f1))) ⟨(blk_cell BK139.out 0).trans rfl, (blk_cell BK139.out 1).trans rfl⟩ (fun hHeld => ?_); refine with_tabW impl_isPairs.tab4 impl_isPairs.bits4 (fun HT_ HW_ => ?_)
               generalize w19.drew = w20 at BK139 HB hHeld ⊢
               refine zp HT_ 0 14 ?_
               refine zt HT_ HW_ 1 15 hHeld ?_ (hy := by rintro w' ⟨s0, s1⟩; go_simp; with_reducible rfl)
               refine zp HT_ 2 16 ?_
               refine zp HT_ 3 17 ?_
               refine zp HT_ 4 18 ?_
               refine zp HT_ 6 20 ?_
               refine zt HT_ HW_ 5 19 hHeld ?_ (hy := by rintro w' ⟨s0, s1⟩; go_simp; with_reducible rfl)
               refine zt HT_ HW_ 7 21 hHeld ?_ (hy := by rintro w' ⟨s0, s1⟩; go_simp; with_reducible rfl)
               refine zp HT_ 8 22 ?_
               refine zp HT_ 9 23 ?_
               refine zp HT_ 10 24 ?_
               refine zp HT_ 11 25 ?_
               refine zp HT_ 13 27 ?_
               refine zt HT_ HW_ 12 26 hHeld ?_ (hy := by rintro w' ⟨s0, s1⟩; go_simp; with_reducible rfl)
               refine zp HT_ 14 28 ?_
               refine zp HT_ 15 29 ?_
               refine zp HT_ 16 30 ?_
               refine zu HT_ 17 31 ?_
               refine zu HT_ 18 32 ?_
               refine zu HT_ 19 33 ?_
               refine zu HT_ 20 34 ?_
               refine zu HT_ 21 35 ?_
               refine zu HT_ 22 36 ?_
               refine zu HT_ 23 37 ?_
               refine zu HT_ 24 38 ?_
               refine zu HT_ 25 39 ?_
               refine zu HT_ 26 40 ?_
               refine zu HT_ 27 41 ?_
               refine zu HT_ 28 42 ?_
               refine zp HT_ 29 43 ?_
               refine zo HT_ ?_
               try go_wp2
               go_ret
               exact ⟨by first | rfl | (simp [errW_none, errW_some] <;> rfl) | (simp [*, errW_none, errW_some] <;> rfl), zB⟩
             · rw [if_neg c16] at H
               have c16b0 : decide (a1 ≤ ((rd_T41 l0 x9_1).f1)) = false := decide_eq_false c16
               clear c16
               by_cases c21 : x9_1 > 0
               · rw [if_pos c21] at H
                 have c21b0 : decide (0 < x9_1) = true := decide_eq_true c21
                 clear c21
                 obtain ⟨ji22, hji22⟩ : ∃ j_ : Int, (wrap64 (x9_1 - 1)) = j_ := ⟨_, rfl⟩
                 replace H : (if 0 ≤ (ji22) then (if (ji22) < (l0.length : Int) then ((impl_comparePairs.f k1 ((rd_T41 l0 (ji22)).f0) ((rd_T41 l0 (ji22)).f1) ((rd_T41 l0 x9_1).f0) ((rd_T41 l0 x9_1).f1)).bind fun t141 => (if t141 ≥ 0 then (some false) else (impl_isPairs.l0 k1 l0 a1 l0 (l0.length : Int) (wrap64 (x9_1 + 1))))) else (none)) else (none)) = some r := by first | (rw [hji22] at H; exact H) | (simp only [hji22] at H ⊢; exact H)
                 have hji22w : (IntKind.i64.wrap (x9_1 - 1)) = ji22 := (i64_w _).trans hji22
                 by_cases c23 : 0 ≤ (ji22)
                 · rw [if_pos c23] at H
                   have c23b0 := decide_eq_true c23
                   clear c23
                   by_cases c24 : (ji22) < (l0.length : Int)
                   · rw [if_pos c24] at H
                     have c24b0 := decide_eq_true c24
                     clear c24
                     replace H := Option.bind_eq_some_iff.mp H
                     obtain ⟨t141, A250, H⟩ := H
                     have A25 := Aside0.mk A250
                     clear A250
                     by_cases c26 : t141 ≥ 0
                     · rw [if_pos c26] at H
                       have c26b0 : decide (0 ≤ t141) = true := decide_eq_true c26
                       clear c26
                       obtain rfl := Option.some.inj H
                       have p138 : 0 ≤ (x9_1 : Int) := of_decide_eq_true zA
                       have q138 : x9_1 < (l0.length : Int) := of_decide_eq_true zA
                       obtain ⟨ad138, e138, hx138_0, hx138_1⟩ := at_T41 HR0.out x9_1 p138 q138
                       cases e138
                       (try replace hx138_0 := (HB.out.cell (World.block_lt_of_cell? w _ hx138_0)).trans hx138_0)
                       (try replace hx138_1 := (HB.out.cell (World.block_lt_of_cell? w _ hx138_1)).trans hx138_1)
                       replace p138 := eq_true p138
                       replace q138 := eq_true q138
                       try go_wp2_with (first | ((with_reducible refine gate_dst (N := 6) rfl ?_); refine zb (w := w) 6 #[.int .i64 0, .int .i64 0] 41 zB ?_; clear HB; intro gb139 w27 HB BK139 GW139; have GE139 := GW139; have hcz28_0 := zy BK139 0; have hcz28_1 := zy BK139 1; have hfz28_0 := blk_frozen BK139.out 0; have hfz28_1 := blk_frozen BK139.out 1))
                       have n0_ : Aside0 (((w27.setCell ⟨gb139, 0, none⟩ (.int .i64 ((rd_T41 l0 x9_1).f0))).setCell ⟨gb139, 1, none⟩ (.int .i64 ((rd_T41 l0 x9_1).f1))).heap[gb139]? = some (.cells #[.int .i64 ((rd_T41 l0 x9_1).f0), .int .i64 ((rd_T41 l0 x9_1).f1)] 41 (0, 0))) := ⟨by (with_reducible repeat (first | refine blk_drewN ?_ _ | refine blk_drew ?_ | refine blk_alloc ?_ _)); refine blk_put (cs := #[.int .i64 ((rd_T41 l0 x9_1).f0), .int .i64 0]) ?_ 1 _ rfl; (with_reducible repeat (first | refine blk_drewN ?_ _ | refine blk_drew ?_ | refine blk_alloc ?_ _)); refine blk_put (cs := #[.int .i64 0, .int .i64 0]) ?_ 0 _ rfl; (with_reducible repeat (first | refine blk_drewN ?_ _ | refine blk_drew ?_ | refine blk_alloc ?_ _)); exact BK139.out⟩
                       have n1_ : Aside0 (Below w.heap.size w ((w27.setCell ⟨gb139, 0, none⟩ (.int .i64 ((rd_T41 l0 x9_1).f0))).setCell ⟨gb139, 1, none⟩ (.int .i64 ((rd_T41 l0 x9_1).f1)))) := ⟨zB⟩
                       (try clear BK139)
                       (try clear HB)
                       generalize ((w27.setCell ⟨gb139, 0, none⟩ (.int .i64 ((rd_T41 l0 x9_1).f0))).setCell ⟨gb139, 1, none⟩ (.int .i64 ((rd_T41 l0 x9_1).f1))) = w29 at n0_ n1_ ⊢
                       have BK139 := n0_
                       have HB := n1_
                       clear n0_ n1_
                       replace BK139 := zM (blk_drew BK139.out)
                       replace HB := zM (below_drew1 HB.out)
                       have p140 : 0 ≤ ((ji22) : Int) := of_decide_eq_true zA
                       have q140 : (ji22) < (l0.length : Int) := of_decide_eq_true zA
                       obtain ⟨ad140, e140, hx140_0, hx140_1⟩ := at_T41 HR0.out (ji22) p140 q140
                       have hw140_1 := hx140_1
                       have hw140_0 := hx140_0
                       obtain rfl : ad138 = ad140 := (by injection e140)
                       (try replace hx140_0 := (HB.out.cell (World.block_lt_of_cell? w _ hx140_0)).trans hx140_0)
                       (try replace hx140_1 := (HB.out.cell (World.block_lt_of_cell? w _ hx140_1)).trans hx140_1)
                       replace p140 := eq_true p140
                       replace q140 := eq_true q140
                       refine zs (n := 30) (fun w' => w'.cell? ⟨gb139, 0, none⟩ = some (.int .i64 ((rd_T41 l0 x9_1).f0)) ∧ w'.cell? ⟨gb139, 1, none⟩ = some (.int .i64 ((rd_T41 l0 x9_1).f1)) ∧ w'.cell? (ad138.add (((ji22)).toNat * 2)) = some (.int .i64 ((rd_T41 l0 (ji22)).f0)) ∧ w'.cell? ⟨(ad138.add (((ji22)).toNat * 2)).block, (ad138.add (((ji22)).toNat * 2)).off + 1, none⟩ = some (.int .i64 ((rd_T41 l0 (ji22)).f1))) ⟨(blk_cell BK139.out 0).trans rfl, (blk_cell BK139.out 1).trans rfl, ((HB.out.cell (World.block_lt_of_cell? w _ hw140_0)).trans hw140_0), ((HB.out.cell (World.block_lt_of_cell? w _ hw140_1)).trans hw140_1)⟩ (fun hHeld => ?_); refine with_tabW impl_isPairs.tab4 impl_isPairs.bits4 (fun HT_ HW_ => ?_)
                       generalize w29.drew = w30 at BK139 HB hx140_0 hx140_1 hHeld ⊢
                       refine zp HT_ 0 14 ?_
                       refine zt HT_ HW_ 1 15 hHeld ?_ (hy := by rintro w' ⟨s0, s1, s2, s3⟩; go_simp; with_reducible rfl)
                       refine zp HT_ 2 16 ?_
                       refine zp HT_ 3 17 ?_
                       refine zp HT_ 4 18 ?_
                       refine zp HT_ 6 20 ?_
                       refine zt HT_ HW_ 5 19 hHeld ?_ (hy := by rintro w' ⟨s0, s1, s2, s3⟩; go_simp; with_reducible rfl)
                       refine zt HT_ HW_ 7 21 hHeld ?_ (hy := by rintro w' ⟨s0, s1, s2, s3⟩; go_simp; with_reducible rfl)
                       refine zp HT_ 8 22 ?_
                       refine zp HT_ 9 23 ?_
                       refine zp HT_ 10 24 ?_
                       refine zp HT_ 11 25 ?_
                       refine zp HT_ 13 27 ?_
                       refine zt HT_ HW_ 12 26 hHeld ?_ (hy := by rintro w' ⟨s0, s1, s2, s3⟩; go_simp; with_reducible rfl)
                       refine zp HT_ 14 28 ?_
                       refine zp HT_ 15 29 ?_
                       refine zp HT_ 16 30 ?_
                       refine zp HT_ 17 31 ?_
                       refine zp HT_ 18 32 ?_
                       refine zp HT_ 19 33 ?_
                       refine zp HT_ 20 34 ?_
                       refine zp HT_ 21 35 ?_
                       refine zp HT_ 22 36 ?_
                       refine zp HT_ 23 37 ?_
                       refine zt HT_ HW_ 24 38 hHeld ?_ (hy := by rintro w' ⟨s0, s1, s2, s3⟩; go_simp; with_reducible rfl)
                       refine zt HT_ HW_ 25 39 hHeld ?_ (hy := by rintro w' ⟨s0, s1, s2, s3⟩; go_simp; with_reducible rfl)
                       refine one_ (i := 26) (N := some 40) #[true, true, true, true, true, true, true, true, true, true, true, true, true, true, true, true, true, true, true, true, true, true, true, true, true, true, true, false, false, false] rfl rfl (one_of HT_.out (by kernel_rfl)) (by decide) (fun K hK => ?_)
                       refine goes_ Tryd.func42 (by kernel_rfl) rfl #[.agg #[.int .i64 ((rd_T41 l0 (ji22)).f0), .int .i64 ((rd_T41 l0 (ji22)).f1)], .agg #[.int .i64 ((rd_T41 l0 x9_1).f0), .int .i64 ((rd_T41 l0 x9_1).f1)]] (by rfl) rfl rfl (by (try simp only [List.map_toArray, List.map_cons, List.map_nil]); first | done | (simp only [hji22]; rfl) | rfl | (simp only [List.length_drop, List.length_take]; rfl)) ?_
                       with_reducible refine (impl_comparePairs.calls k1 ((rd_T41 l0 (ji22)).f0) ((rd_T41 l0 (ji22)).f1) ((rd_T41 l0 x9_1).f0) ((rd_T41 l0 x9_1).f1) t141 _ A25.out).mono ?_
                       rintro e w31 ⟨rfl, hb⟩
                       refine ⟨_, rfl, ?_⟩
                       replace BK139 := zM (blk_below (g := gb139) (o := .cells #[.int .i64 ((rd_T41 l0 x9_1).f0), .int .i64 ((rd_T41 l0 x9_1).f1)] 41 (0, 0)) (zK BK139.out) hb)
                       replace HB := zM (below_step zB hb)
                       (try clear hb)
                       (try clear hb2)
                       (try clear hk)
                       (try clear hi)
                       refine hK.out _ _ ⟨(blk_cell BK139.out 0).trans rfl, (blk_cell BK139.out 1).trans rfl, ((HB.out.cell (World.block_lt_of_cell? w _ hw140_0)).trans hw140_0), ((HB.out.cell (World.block_lt_of_cell? w _ hw140_1)).trans hw140_1)⟩ (fun hHeld => ?_)
                       clear hK K
                       refine zn 40 ?_
                       refine zp HT_ 27 41 ?_
                       refine zp HT_ 28 42 ?_
                       refine zp HT_ 29 43 ?_
                       refine zo HT_ ?_
                       try go_wp2
                       go_ret
                       exact ⟨by first | rfl | (simp [errW_none, errW_some] <;> rfl) | (simp only [← hji22]; first | rfl | (simp [errW_none, errW_some] <;> rfl)) | (simp [*, errW_none, errW_some] <;> rfl), zB⟩
                     · rw [if_neg c26] at H
                       have c26b0 : decide (0 ≤ t141) = false := decide_eq_false c26
                       clear c26
                       have H' := Aside0.mk H
                       clear H
                       have p138 : 0 ≤ (x9_1 : Int) := of_decide_eq_true zA
                       have q138 : x9_1 < (l0.length : Int) := of_decide_eq_true zA
                       obtain ⟨ad138, e138, hx138_0, hx138_1⟩ := at_T41 HR0.out x9_1 p138 q138
                       cases e138
                       (try replace hx138_0 := (HB.out.cell (World.block_lt_of_cell? w _ hx138_0)).trans hx138_0)
                       (try replace hx138_1 := (HB.out.cell (World.block_lt_of_cell? w _ hx138_1)).trans hx138_1)
                       replace p138 := eq_true p138
                       replace q138 := eq_true q138
                       try go_wp2_with (first | ((with_reducible refine gate_dst (N := 6) rfl ?_); refine zb (w := w) 6 #[.int .i64 0, .int .i64 0] 41 zB ?_; clear HB; intro gb139 w32 HB BK139 GW139; have GE139 := GW139; have hcz33_0 := zy BK139 0; have hcz33_1 := zy BK139 1; have hfz33_0 := blk_frozen BK139.out 0; have hfz33_1 := blk_frozen BK139.out 1))
                       have n0_ : Aside0 (((w32.setCell ⟨gb139, 0, none⟩ (.int .i64 ((rd_T41 l0 x9_1).f0))).setCell ⟨gb139, 1, none⟩ (.int .i64 ((rd_T41 l0 x9_1).f1))).heap[gb139]? = some (.cells #[.int .i64 ((rd_T41 l0 x9_1).f0), .int .i64 ((rd_T41 l0 x9_1).f1)] 41 (0, 0))) := ⟨by (with_reducible repeat (first | refine blk_drewN ?_ _ | refine blk_drew ?_ | refine blk_alloc ?_ _)); refine blk_put (cs := #[.int .i64 ((rd_T41 l0 x9_1).f0), .int .i64 0]) ?_ 1 _ rfl; (with_reducible repeat (first | refine blk_drewN ?_ _ | refine blk_drew ?_ | refine blk_alloc ?_ _)); refine blk_put (cs := #[.int .i64 0, .int .i64 0]) ?_ 0 _ rfl; (with_reducible repeat (first | refine blk_drewN ?_ _ | refine blk_drew ?_ | refine blk_alloc ?_ _)); exact BK139.out⟩
                       have n1_ : Aside0 (Below w.heap.size w ((w32.setCell ⟨gb139, 0, none⟩ (.int .i64 ((rd_T41 l0 x9_1).f0))).setCell ⟨gb139, 1, none⟩ (.int .i64 ((rd_T41 l0 x9_1).f1)))) := ⟨zB⟩
                       (try clear BK139)
                       (try clear HB)
                       generalize ((w32.setCell ⟨gb139, 0, none⟩ (.int .i64 ((rd_T41 l0 x9_1).f0))).setCell ⟨gb139, 1, none⟩ (.int .i64 ((rd_T41 l0 x9_1).f1))) = w34 at n0_ n1_ ⊢
                       have BK139 := n0_
                       have HB := n1_
                       clear n0_ n1_
                       replace BK139 := zM (blk_drew BK139.out)
                       replace HB := zM (below_drew1 HB.out)
                       have p140 : 0 ≤ ((ji22) : Int) := of_decide_eq_true zA
                       have q140 : (ji22) < (l0.length : Int) := of_decide_eq_true zA
                       obtain ⟨ad140, e140, hx140_0, hx140_1⟩ := at_T41 HR0.out (ji22) p140 q140
                       have hw140_1 := hx140_1
                       have hw140_0 := hx140_0
                       obtain rfl : ad138 = ad140 := (by injection e140)
                       (try replace hx140_0 := (HB.out.cell (World.block_lt_of_cell? w _ hx140_0)).trans hx140_0)
                       (try replace hx140_1 := (HB.out.cell (World.block_lt_of_cell? w _ hx140_1)).trans hx140_1)
                       replace p140 := eq_true p140
                       replace q140 := eq_true q140
                       refine zs (n := 30) (fun w' => w'.cell? ⟨gb139, 0, none⟩ = some (.int .i64 ((rd_T41 l0 x9_1).f0)) ∧ w'.cell? ⟨gb139, 1, none⟩ = some (.int .i64 ((rd_T41 l0 x9_1).f1)) ∧ w'.cell? (ad138.add (((ji22)).toNat * 2)) = some (.int .i64 ((rd_T41 l0 (ji22)).f0)) ∧ w'.cell? ⟨(ad138.add (((ji22)).toNat * 2)).block, (ad138.add (((ji22)).toNat * 2)).off + 1, none⟩ = some (.int .i64 ((rd_T41 l0 (ji22)).f1))) ⟨(blk_cell BK139.out 0).trans rfl, (blk_cell BK139.out 1).trans rfl, ((HB.out.cell (World.block_lt_of_cell? w _ hw140_0)).trans hw140_0), ((HB.out.cell (World.block_lt_of_cell? w _ hw140_1)).trans hw140_1)⟩ (fun hHeld => ?_); refine with_tabW impl_isPairs.tab4 impl_isPairs.bits4 (fun HT_ HW_ => ?_)
                       generalize w34.drew = w35 at BK139 HB hx140_0 hx140_1 hHeld ⊢
                       refine zp HT_ 0 14 ?_
                       refine zt HT_ HW_ 1 15 hHeld ?_ (hy := by rintro w' ⟨s0, s1, s2, s3⟩; go_simp; with_reducible rfl)
                       refine zp HT_ 2 16 ?_
                       refine zp HT_ 3 17 ?_
                       refine zp HT_ 4 18 ?_
                       refine zp HT_ 6 20 ?_
                       refine zt HT_ HW_ 5 19 hHeld ?_ (hy := by rintro w' ⟨s0, s1, s2, s3⟩; go_simp; with_reducible rfl)
                       refine zt HT_ HW_ 7 21 hHeld ?_ (hy := by rintro w' ⟨s0, s1, s2, s3⟩; go_simp; with_reducible rfl)
                       refine zp HT_ 8 22 ?_
                       refine zp HT_ 9 23 ?_
                       refine zp HT_ 10 24 ?_
                       refine zp HT_ 11 25 ?_
                       refine zp HT_ 13 27 ?_
                       refine zt HT_ HW_ 12 26 hHeld ?_ (hy := by rintro w' ⟨s0, s1, s2, s3⟩; go_simp; with_reducible rfl)
                       refine zp HT_ 14 28 ?_
                       refine zp HT_ 15 29 ?_
                       refine zp HT_ 16 30 ?_
                       refine zp HT_ 17 31 ?_
                       refine zp HT_ 18 32 ?_
                       refine zp HT_ 19 33 ?_
                       refine zp HT_ 20 34 ?_
                       refine zp HT_ 21 35 ?_
                       refine zp HT_ 22 36 ?_
                       refine zp HT_ 23 37 ?_
                       refine zt HT_ HW_ 24 38 hHeld ?_ (hy := by rintro w' ⟨s0, s1, s2, s3⟩; go_simp; with_reducible rfl)
                       refine zt HT_ HW_ 25 39 hHeld ?_ (hy := by rintro w' ⟨s0, s1, s2, s3⟩; go_simp; with_reducible rfl)
                       refine one_ (i := 26) (N := some 40) #[true, true, true, true, true, true, true, true, true, true, true, true, true, true, true, true, true, true, true, true, true, true, true, true, true, true, true, false, false, false] rfl rfl (one_of HT_.out (by kernel_rfl)) (by decide) (fun K hK => ?_)
                       refine goes_ Tryd.func42 (by kernel_rfl) rfl #[.agg #[.int .i64 ((rd_T41 l0 (ji22)).f0), .int .i64 ((rd_T41 l0 (ji22)).f1)], .agg #[.int .i64 ((rd_T41 l0 x9_1).f0), .int .i64 ((rd_T41 l0 x9_1).f1)]] (by rfl) rfl rfl (by (try simp only [List.map_toArray, List.map_cons, List.map_nil]); first | done | (simp only [hji22]; rfl) | rfl | (simp only [List.length_drop, List.length_take]; rfl)) ?_
                       with_reducible refine (impl_comparePairs.calls k1 ((rd_T41 l0 (ji22)).f0) ((rd_T41 l0 (ji22)).f1) ((rd_T41 l0 x9_1).f0) ((rd_T41 l0 x9_1).f1) t141 _ A25.out).mono ?_
                       rintro e w36 ⟨rfl, hb⟩
                       refine ⟨_, rfl, ?_⟩
                       replace BK139 := zM (blk_below (g := gb139) (o := .cells #[.int .i64 ((rd_T41 l0 x9_1).f0), .int .i64 ((rd_T41 l0 x9_1).f1)] 41 (0, 0)) (zK BK139.out) hb)
                       replace HB := zM (below_step zB hb)
                       (try clear hb)
                       (try clear hb2)
                       (try clear hk)
                       (try clear hi)
                       refine hK.out _ _ ⟨(blk_cell BK139.out 0).trans rfl, (blk_cell BK139.out 1).trans rfl, ((HB.out.cell (World.block_lt_of_cell? w _ hw140_0)).trans hw140_0), ((HB.out.cell (World.block_lt_of_cell? w _ hw140_1)).trans hw140_1)⟩ (fun hHeld => ?_)
                       clear hK K
                       refine zn 40 ?_
                       refine zp HT_ 27 41 ?_
                       refine zp HT_ 28 42 ?_
                       refine zp HT_ 29 43 ?_
                       refine zo HT_ ?_
                       try go_wp2
                       go_roundg k1
                       case measure => have := HK1.out; omega
                       case rel => exact ⟨(wrap64 (x9_1 + 1)), (by first | rfl | (simp; done) | (simp [*]; done)), H', ⟨by have := HK1.out; omega⟩, ⟨zB⟩⟩
                   · rw [if_neg c24] at H
                     exact absurd H (by simp)
                 · rw [if_neg c23] at H
                   exact absurd H (by simp)
               · rw [if_neg c21] at H
                 have c21b0 : decide (0 < x9_1) = false := decide_eq_false c21
                 clear c21
                 have H' := Aside0.mk H
                 clear H
                 have p138 : 0 ≤ (x9_1 : Int) := of_decide_eq_true zA
                 have q138 : x9_1 < (l0.length : Int) := of_decide_eq_true zA
                 obtain ⟨ad138, e138, hx138_0, hx138_1⟩ := at_T41 HR0.out x9_1 p138 q138
                 cases e138
                 (try replace hx138_0 := (HB.out.cell (World.block_lt_of_cell? w _ hx138_0)).trans hx138_0)
                 (try replace hx138_1 := (HB.out.cell (World.block_lt_of_cell? w _ hx138_1)).trans hx138_1)
                 replace p138 := eq_true p138
                 replace q138 := eq_true q138
                 try go_wp2_with (first | ((with_reducible refine gate_dst (N := 6) rfl ?_); refine zb (w := w) 6 #[.int .i64 0, .int .i64 0] 41 zB ?_; clear HB; intro gb139 w37 HB BK139 GW139; have GE139 := GW139; have hcz38_0 := zy BK139 0; have hcz38_1 := zy BK139 1; have hfz38_0 := blk_frozen BK139.out 0; have hfz38_1 := blk_frozen BK139.out 1))
                 have n0_ : Aside0 (((w37.setCell ⟨gb139, 0, none⟩ (.int .i64 ((rd_T41 l0 x9_1).f0))).setCell ⟨gb139, 1, none⟩ (.int .i64 ((rd_T41 l0 x9_1).f1))).heap[gb139]? = some (.cells #[.int .i64 ((rd_T41 l0 x9_1).f0), .int .i64 ((rd_T41 l0 x9_1).f1)] 41 (0, 0))) := ⟨by (with_reducible repeat (first | refine blk_drewN ?_ _ | refine blk_drew ?_ | refine blk_alloc ?_ _)); refine blk_put (cs := #[.int .i64 ((rd_T41 l0 x9_1).f0), .int .i64 0]) ?_ 1 _ rfl; (with_reducible repeat (first | refine blk_drewN ?_ _ | refine blk_drew ?_ | refine blk_alloc ?_ _)); refine blk_put (cs := #[.int .i64 0, .int .i64 0]) ?_ 0 _ rfl; (with_reducible repeat (first | refine blk_drewN ?_ _ | refine blk_drew ?_ | refine blk_alloc ?_ _)); exact BK139.out⟩
                 have n1_ : Aside0 (Below w.heap.size w ((w37.setCell ⟨gb139, 0, none⟩ (.int .i64 ((rd_T41 l0 x9_1).f0))).setCell ⟨gb139, 1, none⟩ (.int .i64 ((rd_T41 l0 x9_1).f1)))) := ⟨zB⟩
                 (try clear BK139)
                 (try clear HB)
                 generalize ((w37.setCell ⟨gb139, 0, none⟩ (.int .i64 ((rd_T41 l0 x9_1).f0))).setCell ⟨gb139, 1, none⟩ (.int .i64 ((rd_T41 l0 x9_1).f1))) = w39 at n0_ n1_ ⊢
                 have BK139 := n0_
                 have HB := n1_
                 clear n0_ n1_
                 replace BK139 := zM (blk_drew BK139.out)
                 replace HB := zM (below_drew1 HB.out)
                 refine zs (n := 30) (fun w' => w'.cell? ⟨gb139, 0, none⟩ = some (.int .i64 ((rd_T41 l0 x9_1).f0)) ∧ w'.cell? ⟨gb139, 1, none⟩ = some (.int .i64 ((rd_T41 l0 x9_1).f1))) ⟨(blk_cell BK139.out 0).trans rfl, (blk_cell BK139.out 1).trans rfl⟩ (fun hHeld => ?_); refine with_tabW impl_isPairs.tab4 impl_isPairs.bits4 (fun HT_ HW_ => ?_)
                 generalize w39.drew = w40 at BK139 HB hHeld ⊢
                 refine zp HT_ 0 14 ?_
                 refine zt HT_ HW_ 1 15 hHeld ?_ (hy := by rintro w' ⟨s0, s1⟩; go_simp; with_reducible rfl)
                 refine zp HT_ 2 16 ?_
                 refine zp HT_ 3 17 ?_
                 refine zp HT_ 4 18 ?_
                 refine zp HT_ 6 20 ?_
                 refine zt HT_ HW_ 5 19 hHeld ?_ (hy := by rintro w' ⟨s0, s1⟩; go_simp; with_reducible rfl)
                 refine zt HT_ HW_ 7 21 hHeld ?_ (hy := by rintro w' ⟨s0, s1⟩; go_simp; with_reducible rfl)
                 refine zp HT_ 8 22 ?_
                 refine zp HT_ 9 23 ?_
                 refine zp HT_ 10 24 ?_
                 refine zp HT_ 11 25 ?_
                 refine zp HT_ 13 27 ?_
                 refine zt HT_ HW_ 12 26 hHeld ?_ (hy := by rintro w' ⟨s0, s1⟩; go_simp; with_reducible rfl)
                 refine zp HT_ 14 28 ?_
                 refine zp HT_ 15 29 ?_
                 refine zp HT_ 16 30 ?_
                 refine zp HT_ 17 31 ?_
                 refine zp HT_ 18 32 ?_
                 refine zp HT_ 19 33 ?_
                 refine zu HT_ 20 34 ?_
                 refine zu HT_ 21 35 ?_
                 refine zu HT_ 22 36 ?_
                 refine zu HT_ 23 37 ?_
                 refine zu HT_ 24 38 ?_
                 refine zu HT_ 25 39 ?_
                 refine zu HT_ 26 40 ?_
                 refine zu HT_ 27 41 ?_
                 refine zp HT_ 28 42 ?_
                 refine zp HT_ 29 43 ?_
                 refine zo HT_ ?_
                 try go_wp2
                 go_roundg k1
                 case measure => have := HK1.out; omega
                 case rel => exact ⟨(wrap64 (x9_1 + 1)), (by first | rfl | (simp; done) | (simp [*]; done)), H', ⟨by have := HK1.out; omega⟩, ⟨zB⟩⟩
       · rw [if_neg c5] at H
         exact absurd H (by simp)
     · rw [if_neg c4] at H
       exact absurd H (by simp)
   · rw [if_neg c3] at H
     have c3b0 : decide (x9_1 < (l0.length : Int)) = false := decide_eq_false c3
     clear c3
     obtain rfl := Option.some.inj H
     go_wp2
     go_ret
     exact ⟨by first | rfl | (simp [errW_none, errW_some] <;> rfl) | (simp [*, errW_none, errW_some] <;> rfl), zB⟩

end Go.Proofs.YtfkcddambaadjaaDoor.P
