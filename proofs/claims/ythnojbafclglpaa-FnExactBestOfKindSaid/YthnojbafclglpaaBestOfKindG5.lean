-- Written by a program of this session (the kit's print, turned: wip/print/patch.py) out of the translation. Not trusted: Lean checks it.
import Derived.Test.YthnojbafclglpaaBestOfKindG3
import Derived.Test.YthnojbafclglpaaProg
import Derived.ChangeKeysEq
import Derived.Below
import Derived.Deep.Draws
import Derived.Deep.AppendLies
import Derived.Maps.AppendAt
import Derived.OwnWalk
import Derived.Laws.BytesArg
import Derived.Laws.MakeOwn
import Derived.Laws.OwnMore
import Derived.Deep.OwnRows
import Derived.Tactics
import Derived.Lib.ConvBytes
import Derived.Laws.Slices
import Derived.WalkKit
import Derived.KernelRfl
import Derived.RowKit3
import Derived.Deep.LoopGhost
import Derived.Deep.QuietTactic
import Derived.BigQuiet
import Derived.WideLaws
import Derived.Deep.DeepCutAuto
import Derived.Deep.CutBlock
import Derived.Deep.RegionHeld3
import Derived.Laws.Rows
import Derived.Lib.AppendStr
import Derived.ArgAppend
import Derived.Laws.IdiomCopy
import Derived.OrdersHeld
import Derived.Laws.BitsLemmas
import Derived.RowKit
import Derived.Test.YthnojbafclglpaaBestOfKindG1
import Derived.Test.YthnojbafclglpaaBestOfKindG0
import Derived.Test.YthnojbafclglpaaBestOfKindG2
import Derived.Laws.StructEq
namespace Go.Proofs.Ythnojbafclglpaa.P
open Go.RowKit Go.Proofs.YthnojbafclglpaaW.PrintWords Go.Proofs.YthnojbafclglpaaW.PrintLast Go.Proofs.YthnojbafclglpaaW.PrintMore
attribute [local go_sem] max2_int min2_int max_two min_two max_three min_three max_four min_four   -- for this text's walks alone
set_option linter.unusedVariables false
set_option linter.unusedSimpArgs false



def errW : Option Int → Value
 | none => .nilIface
 | some c => .iface 0 (.int .i64 c)
theorem errW_none : errW none = .nilIface := rfl
theorem errW_some (c : Int) : errW (some c) = .iface 0 (.int .i64 c) := rfl

theorem info3 : (Try.prog.info? 3).map (fun i => (i.zero, i.size, i.bytes)) = some (some (.int .i64 0), 1, 8) := by kernel_rfl
theorem info26 : (Try.prog.info? 26).map (fun i => (i.zero, i.size, i.bytes)) = some (some (.slice none 0 0), 1, 24) := by kernel_rfl
theorem info64 : (Try.prog.info? 64).map (fun i => (i.zero, i.size, i.bytes)) = some (some (.agg #[(.int .i64 0), (.int .i64 0)]), 2, 16) := by kernel_rfl
-- the values' own types
/-! #### struct type 64 -/
structure S64 where
 f0 : Int
 f1 : Int
def z64 : S64 := ⟨(0 : Int), (0 : Int)⟩
def k64 : Kd S64 := Kd.iso (Kd.pair (Kd.int .i64) (Kd.int .i64)) (fun x : S64 => (x.f0, x.f1))
theorem k64_open {w : World} {x : S64} {cs : List Value} (h : k64.K w x cs) : cs = [.int .i64 x.f0, .int .i64 x.f1] := by
 obtain ⟨_, _, rfl, rfl, rfl⟩ := h
 exact rfl
theorem k64_openM {w : World} {base : Nat} {ok : Nat → Prop} {x : S64} {cs : List Value} (h : k64.M w base ok x cs) : cs = [.int .i64 x.f0, .int .i64 x.f1] := by
 obtain ⟨_, _, rfl, rfl, rfl⟩ := h
 exact rfl
theorem k64_mk (w : World) (x : S64)  : k64.K w x [.int .i64 x.f0, .int .i64 x.f1] := ⟨[.int .i64 x.f0], [.int .i64 x.f1], rfl, rfl, rfl⟩
theorem k64_mkM (w : World) (base : Nat) (ok : Nat → Prop) (x : S64)  : k64.M w base ok x [.int .i64 x.f0, .int .i64 x.f1] := ⟨[.int .i64 x.f0], [.int .i64 x.f1], rfl, rfl, rfl⟩
def rd_T64 (xs : List S64) (i : Int) : S64 := xs.getD i.toNat z64
theorem at_T64 {w : World} {A : Option Addr} {n : Nat} {xs : List S64} (h : Kd.C k64 w A n xs) (i : Int) (h0 : 0 ≤ i) (h1 : i < n) : ∃ ad , A = some ad ∧ w.cell? (ad.add (i.toNat * 2)) = some (.int .i64 (rd_T64 xs i).f0) ∧ w.cell? ⟨(ad.add (i.toNat * 2)).block, (ad.add (i.toNat * 2)).off + 1, none⟩ = some (.int .i64 (rd_T64 xs i).f1) := by
 obtain ⟨ad, c, e, _, hK, hc0⟩ := Kd.C_get h z64 i h0 h1
 have hc : ∀ j u, c[j]? = some u → w.cell? (ad.add (i.toNat * 2 + j)) = some u := hc0
 obtain rfl := k64_open hK
 exact ⟨ad, e, hc 0 _ rfl, by rw [← add_field _ _ 1 (by omega)]; exact hc 1 _ rfl⟩

def rd_L4 (xs : List (List Int)) (i : Int) : (List Int) := xs.getD i.toNat ([] : List Int)
theorem at_L4 {w : World} {A : Option Addr} {n : Nat} {xs : List (List Int)} (h : Kd.C (Kd.slice 3 (Kd.int .i64)) w A n xs) (i : Int) (h0 : 0 ≤ i) (h1 : i < n) : ∃ ad A0 c0, A = some ad ∧ w.cell? (ad.add i.toNat) = some (.slice A0 (rd_L4 xs i).length c0) ∧ (rd_L4 xs i).length ≤ c0 ∧ (Kd.int .i64).C w A0 (rd_L4 xs i).length (rd_L4 xs i) := by
 obtain ⟨ad, c, e, _, hK, hc0⟩ := Kd.C_get h ([] : List Int) i h0 h1
 have hc : ∀ j u, c[j]? = some u → w.cell? (ad.add (i.toNat * 1 + j)) = some u := hc0
 obtain ⟨A0, c0, rfl, l0, g0⟩ := hK
 exact ⟨ad, A0, c0, e, by have hq := hc 0 _ rfl; rwa [Nat.mul_one, Nat.add_zero] at hq, l0, g0⟩

end Go.Proofs.Ythnojbafclglpaa.P
namespace Go.Proofs.Ythnojbafclglpaa.P
open Go.RowKit Go.Proofs.YthnojbafclglpaaW.PrintWords Go.Proofs.YthnojbafclglpaaW.PrintLast Go.Proofs.YthnojbafclglpaaW.PrintMore
attribute [local go_sem] max2_int min2_int max_two min_two max_three min_three max_four min_four   -- for this text's walks alone
set_option linter.unusedVariables false
set_option linter.unusedSimpArgs false

/-! ### laws_szIntA2S: function 65 -/
def laws_szIntA2S.f (l0 : List (S64)) (a1 : Int) : Option (Int) := if (wrap64 (a1 - (l0.length : Int))) < 0 then (some (-1)) else (some (wrap64 (a1 - (l0.length : Int))))
set_option maxHeartbeats 8000000 in
set_option maxRecDepth 100000 in
theorem laws_szIntA2S.calls (A0 : Option Addr) (c0 : Nat) (l0 : List (S64)) (a1 : Int) (r : Int) (w : World) (hr0 : Kd.C k64 w A0 l0.length l0) (hc0 : l0.length ≤ c0) (h : laws_szIntA2S.f l0 a1 = some r) :
 Calls Try.prog 65 #[.slice A0 l0.length c0, .int .i64 a1] w fun e w' => e = .returned (.int .i64 r) ∧ Drawn0 w w' := by
 have HR0 := Aside0.mk hr0
 have HC0 := Aside0.mk hc0
 clear hr0 hc0
 have H : (if (wrap64 (a1 - (l0.length : Int))) < 0 then (some (-1)) else (some (wrap64 (a1 - (l0.length : Int))))) = some r := h
 clear h
 by_cases c3 : (wrap64 (a1 - (l0.length : Int))) < 0
 · rw [if_pos c3] at H
   have c3b0 := decide_eq_true c3
   clear c3
   obtain rfl := Option.some.inj H
   go_enter Try.func65, Try.ntmps65
   go_wp2
   go_ret
   exact ⟨by first | rfl | (simp; done) | (simp [*]; done), by repeat (first | exact Drawn0.refl _ | apply Drawn0.step)⟩
 · rw [if_neg c3] at H
   have c3b0 : decide ((wrap64 (a1 - (l0.length : Int))) < 0) = false := decide_eq_false c3
   clear c3
   obtain rfl := Option.some.inj H
   go_enter Try.func65, Try.ntmps65
   go_wp2
   go_ret
   exact ⟨by first | rfl | (simp; done) | (simp [*]; done), by repeat (first | exact Drawn0.refl _ | apply Drawn0.step)⟩

/-! ### spec_l1In: function 136 -/
def spec_l1In.f (a0 : Int) (a1 : Int) (a2 : Int) : Option (Bool) := if a0 ≥ a1 then (some (decide (a0 ≤ a2))) else (some false)
set_option maxHeartbeats 8000000 in
set_option maxRecDepth 100000 in
theorem spec_l1In.calls (a0 : Int) (a1 : Int) (a2 : Int) (r : Bool) (w : World) (h : spec_l1In.f a0 a1 a2 = some r) :
 Calls Try.prog 136 #[.int .i64 a0, .int .i64 a1, .int .i64 a2] w fun e w' => e = .returned (.bool r) ∧ Drawn0 w w' := by
 have H : (if a0 ≥ a1 then (some (decide (a0 ≤ a2))) else (some false)) = some r := h
 clear h
 by_cases c4 : a0 ≥ a1
 · rw [if_pos c4] at H
   have c4b0 : decide (a1 ≤ a0) = true := decide_eq_true c4
   clear c4
   obtain rfl := Option.some.inj H
   go_enter Try.func136, Try.ntmps136
   go_wp2
   go_ret
   exact ⟨by first | rfl | (simp; done) | (simp [*]; done), by repeat (first | exact Drawn0.refl _ | apply Drawn0.step)⟩
 · rw [if_neg c4] at H
   have c4b0 : decide (a1 ≤ a0) = false := decide_eq_false c4
   clear c4
   obtain rfl := Option.some.inj H
   go_enter Try.func136, Try.ntmps136
   go_wp2
   go_ret
   exact ⟨by first | rfl | (simp; done) | (simp [*]; done), by repeat (first | exact Drawn0.refl _ | apply Drawn0.step)⟩

/-! ### spec_l2Before: function 134 -/
mutual
def spec_l2Before.l0 : Nat → List Int → List Int → Int → Option (Bool)
 | 0, _, _, _ => none
 | k + 1, x0, x1, x5 => if x5 < (x0.length : Int) then (spec_l2Before.j1 k x0 x1 x5 (decide (x5 < (x1.length : Int)))) else (spec_l2Before.j1 k x0 x1 x5 false)
def spec_l2Before.j1 : Nat → List Int → List Int → Int → Bool → Option (Bool)
 | 0, _, _, _, _ => none
 | k + 1, x0, x1, x5, x15 => if x15 = true then (if 0 ≤ x5 then (if x5 < (x0.length : Int) then (if x5 < (x1.length : Int) then (if (rd x0 x5) = (rd x1 x5) then (spec_l2Before.l0 k x0 x1 (wrap64 (x5 + 1))) else (some (decide ((rd x0 x5) < (rd x1 x5))))) else (none)) else (none)) else (none)) else (some (decide ((x0.length : Int) < (x1.length : Int))))
end
def spec_l2Before.f (k : Nat) (l0 : List Int) (l1 : List Int) : Option (Bool) := spec_l2Before.l0 k l0 l1 0
set_option maxHeartbeats 8000000 in
set_option maxRecDepth 100000 in
theorem spec_l2Before.calls (k : Nat) (A0 : Option Addr) (c0 : Nat) (l0 : List Int) (A1 : Option Addr) (c1 : Nat) (l1 : List Int) (r : Bool) (w : World) (hr0 : Kd.C (Kd.int .i64) w A0 l0.length l0) (hc0 : l0.length ≤ c0) (hr1 : Kd.C (Kd.int .i64) w A1 l1.length l1) (hc1 : l1.length ≤ c1) (h : spec_l2Before.f k l0 l1 = some r) :
 Calls Try.prog 134 #[.slice A0 l0.length c0, .slice A1 l1.length c1] w fun e w' => e = .returned (.bool r) ∧ Drawn0 w w' := by
 have HR0 := Aside0.mk hr0
 have HC0 := Aside0.mk hc0
 clear hr0 hc0
 have HR1 := Aside0.mk hr1
 have HC1 := Aside0.mk hc1
 clear hr1 hc1
 have H : (spec_l2Before.l0 k l0 l1 0) = some r := h
 clear h
 have H' := Aside0.mk H
 clear H
 go_enter Try.func134, Try.ntmps134
 go_wp2
 repeat (go_quiet (fail); try go_wp2)
 go_loopg [5] k (fun kq v5 w' => ∃ (x5_1 : Int), v5 = .int .i64 x5_1 ∧ Aside0 (spec_l2Before.l0 kq l0 l1 x5_1 = some r) ∧ Aside0 (kq ≤ k) ∧ Drawn0 w w')
 case atStart => exact ⟨(0), (by first | rfl | (simp; done) | (simp [*]; done)), H', ⟨Nat.le_refl _⟩, by repeat (first | exact Drawn0.refl _ | apply Drawn0.step)⟩
 case round =>
  clear H'
  try clear c1
  try clear p2
  obtain ⟨x5_1, rfl, HA, HK1, ⟨m1, rfl⟩⟩ := hrel
  cases gk with
  | zero => exact absurd HA.out (by simp [spec_l2Before.l0])
  | succ k1 =>
   have H := HA.out
   clear HA
   simp only [spec_l2Before.l0] at H
   have HC3 := Aside0.mk H
   clear H
   go_upto_region 2 with (fail)
   repeat (go_quiet (fail); go_upto_region 2 with (fail))
   go_cut [15] (fun v15 wc => ∃ (kq : Nat) (x15_2 : Bool), v15 = .bool x15_2 ∧ Aside0 (spec_l2Before.j1 kq l0 l1 x5_1 x15_2 = some r) ∧ Aside0 (kq ≤ k1) ∧ Drawn0 w wc)
   case first =>
    have H := HC3.out
    clear HC3
    by_cases c4 : x5_1 < (l0.length : Int)
    · rw [if_pos c4] at H
      have c4b0 := decide_eq_true c4
      clear c4
      (first | rw [c4b0] | (simp only [i64_w, i32_w]; rw [c4b0]) | skip)
      have H' := Aside0.mk H
      clear H
      go_wp2
      repeat (go_quiet (fail); try go_wp2)
      go_meet
      case rel => exact ⟨_, (decide (x5_1 < (l1.length : Int))), (by first | rfl | (simp; done) | (simp [*]; done)), H', ⟨by have := HK1.out; first | omega | exact Nat.le_refl _⟩, by repeat (first | exact Drawn0.refl _ | apply Drawn0.step)⟩
    · rw [if_neg c4] at H
      have c4b0 : decide (x5_1 < (l0.length : Int)) = false := decide_eq_false c4
      clear c4
      (first | rw [c4b0] | (simp only [i64_w, i32_w]; rw [c4b0]) | skip)
      have H' := Aside0.mk H
      clear H
      go_wp2
      repeat (go_quiet (fail); try go_wp2)
      go_meet
      case rel => exact ⟨_, (false), (by first | rfl | (simp; done) | (simp [*]; done)), H', ⟨by have := HK1.out; first | omega | exact Nat.le_refl _⟩, by repeat (first | exact Drawn0.refl _ | apply Drawn0.step)⟩
   case rest =>
    clear HC3
    try clear c1
    try clear p2
    try clear c4
    try clear c4b0
    try clear p2
    obtain ⟨kq, x15_2, rfl, HA, HJ2, ⟨mc2, rfl⟩⟩ := hcut
    cases kq with
    | zero => exact absurd HA.out (by simp [spec_l2Before.j1])
    | succ kj2 =>
     have H := HA.out
     clear HA
     simp only [spec_l2Before.j1] at H
     by_cases c5 : x15_2 = true
     · subst c5
       rw [if_pos rfl] at H
       by_cases c6 : 0 ≤ x5_1
       · rw [if_pos c6] at H
         have c6b0 := decide_eq_true c6
         clear c6
         by_cases c7 : x5_1 < (l0.length : Int)
         · rw [if_pos c7] at H
           have c7b0 := decide_eq_true c7
           clear c7
           by_cases c8 : x5_1 < (l1.length : Int)
           · rw [if_pos c8] at H
             have c8b0 := decide_eq_true c8
             clear c8
             by_cases c9 : (rd l0 x5_1) = (rd l1 x5_1)
             · rw [if_pos c9] at H
               have c9b0 : ((rd l0 x5_1) == (rd l1 x5_1)) = true := beq_iff_eq.mpr c9
               have c9b1 : ((rd l0 x5_1) != (rd l1 x5_1)) = false := bne_eq_false_iff_eq.mpr c9
               clear c9
               have H' := Aside0.mk H
               clear H
               have p175 : 0 ≤ (x5_1 : Int) := of_decide_eq_true zA
               have q175 : x5_1 < (l0.length : Int) := of_decide_eq_true zA
               obtain ⟨ad175, e175, hx175_0⟩ := Kd.at_int HR0.out x5_1 p175 q175
               cases e175
               replace p175 := eq_true p175
               replace q175 := eq_true q175
               have p176 : 0 ≤ (x5_1 : Int) := of_decide_eq_true zA
               have q176 : x5_1 < (l1.length : Int) := of_decide_eq_true zA
               obtain ⟨ad176, e176, hx176_0⟩ := Kd.at_int HR1.out x5_1 p176 q176
               cases e176
               replace p176 := eq_true p176
               replace q176 := eq_true q176
               go_wp2
               repeat (go_quiet (fail); try go_wp2)
               go_roundg kj2
               case measure => have := HK1.out; have := HJ2.out; omega
               case rel => exact ⟨(wrap64 (x5_1 + 1)), (by first | rfl | (simp; done) | (simp [*]; done)), H', ⟨by have := HK1.out; have := HJ2.out; omega⟩, by repeat (first | exact Drawn0.refl _ | apply Drawn0.step)⟩
             · rw [if_neg c9] at H
               have c9b0 : ((rd l0 x5_1) == (rd l1 x5_1)) = false := beq_eq_false_iff_ne.mpr c9
               have c9b1 : ((rd l0 x5_1) != (rd l1 x5_1)) = true := bne_iff_ne.mpr c9
               obtain rfl := Option.some.inj H
               have p175 : 0 ≤ (x5_1 : Int) := of_decide_eq_true zA
               have q175 : x5_1 < (l0.length : Int) := of_decide_eq_true zA
               obtain ⟨ad175, e175, hx175_0⟩ := Kd.at_int HR0.out x5_1 p175 q175
               cases e175
               replace p175 := eq_true p175
               replace q175 := eq_true q175
               have p176 : 0 ≤ (x5_1 : Int) := of_decide_eq_true zA
               have q176 : x5_1 < (l1.length : Int) := of_decide_eq_true zA
               obtain ⟨ad176, e176, hx176_0⟩ := Kd.at_int HR1.out x5_1 p176 q176
               cases e176
               replace p176 := eq_true p176
               replace q176 := eq_true q176
               have p177 : 0 ≤ (x5_1 : Int) := of_decide_eq_true zA
               have q177 : x5_1 < (l0.length : Int) := of_decide_eq_true zA
               obtain ⟨ad177, e177, hx177_0⟩ := Kd.at_int HR0.out x5_1 p177 q177
               obtain rfl : ad175 = ad177 := (by injection e177)
               replace p177 := eq_true p177
               replace q177 := eq_true q177
               have p178 : 0 ≤ (x5_1 : Int) := of_decide_eq_true zA
               have q178 : x5_1 < (l1.length : Int) := of_decide_eq_true zA
               obtain ⟨ad178, e178, hx178_0⟩ := Kd.at_int HR1.out x5_1 p178 q178
               obtain rfl : ad176 = ad178 := (by injection e178)
               replace p178 := eq_true p178
               replace q178 := eq_true q178
               go_wp2
               repeat (go_quiet (fail); try go_wp2)
               go_ret
               exact ⟨by first | rfl | (simp; done) | (simp [*]; done), by repeat (first | exact Drawn0.refl _ | apply Drawn0.step)⟩
           · rw [if_neg c8] at H
             exact absurd H (by simp)
         · rw [if_neg c7] at H
           exact absurd H (by simp)
       · rw [if_neg c6] at H
         exact absurd H (by simp)
     · replace c5 := Bool.eq_false_iff.mpr c5
       subst c5
       have H1 : (some (decide ((l0.length : Int) < (l1.length : Int)))) = some r := by rw [if_neg (show ¬ (false = true) by decide)] at H; exact H
       clear H
       have H := H1
       clear H1
       obtain rfl := Option.some.inj H
       go_wp2
       repeat (go_quiet (fail); try go_wp2)
       go_ret
       exact ⟨by first | rfl | (simp; done) | (simp [*]; done), by repeat (first | exact Drawn0.refl _ | apply Drawn0.step)⟩

/-! ### spec_l2Edge: function 154 -/
def spec_l2Edge.f (a0_0 : Int) (a0_1 : Int) (a1_0 : Int) (a1_1 : Int) : Option (Bool) := if a0_0 < a1_0 then (some true) else (if a0_0 = a1_0 then (some (decide (a0_1 < a1_1))) else (some false))
set_option maxHeartbeats 8000000 in
set_option maxRecDepth 100000 in
theorem spec_l2Edge.calls (a0_0 : Int) (a0_1 : Int) (a1_0 : Int) (a1_1 : Int) (r : Bool) (w : World) (h : spec_l2Edge.f a0_0 a0_1 a1_0 a1_1 = some r) :
 Calls Try.prog 154 #[.agg #[.int .i64 a0_0, .int .i64 a0_1], .agg #[.int .i64 a1_0, .int .i64 a1_1]] w fun e w' => e = .returned (.bool r) ∧ Below w.heap.size w w' := by
 have hu64 := Try.underlying64
 have HB := zM (Below.refl w.heap.size w)
 have H : (if a0_0 < a1_0 then (some true) else (if a0_0 = a1_0 then (some (decide (a0_1 < a1_1))) else (some false))) = some r := h
 clear h
 by_cases c3 : a0_0 < a1_0
 · rw [if_pos c3] at H
   have c3b0 := decide_eq_true c3
   clear c3
   obtain rfl := Option.some.inj H
   go_enter Try.func154, Try.ntmps154
   go_wp2_with (first | ((with_reducible refine gate_dst (N := 2) rfl ?_); refine zb (w := w) 2 #[.int .i64 a0_0, .int .i64 a0_1] 64 zB ?_; clear HB; intro gb179 w4 HB BK179 GW179; have GE179 := GW179) | ((with_reducible refine gate_dst (N := 3) rfl ?_); refine ze 3 #[.int .i64 a1_0, .int .i64 a1_1] 64 ?_; intro gb180 hg w5 hbox hb; have BK180 := zM (hbox); have GW180 := zM ((by rw [hg]; exact (below_size zB) : w.heap.size ≤ gb180)); have GE180 := zM ((by rw [hg]; exact (below_size zB) : w.heap.size ≤ gb180)); replace HB := zM (below_step zB hb); have NB179_180 := zM ((by rw [hg]; exact Nat.ne_of_lt (blk_lt (g := gb179) (o := .cells #[.int .i64 a0_0, .int .i64 a0_1] 64 (0, 0)) (zK BK179.out)) : gb179 ≠ gb180)); have NB180_179 := zM ((by rw [hg]; exact Nat.ne_of_gt (blk_lt (g := gb179) (o := .cells #[.int .i64 a0_0, .int .i64 a0_1] 64 (0, 0)) (zK BK179.out)) : gb180 ≠ gb179)); replace BK179 := zM (blk_below (g := gb179) (o := .cells #[.int .i64 a0_0, .int .i64 a0_1] 64 (0, 0)) (zK BK179.out) hb); clear hb hbox hg; have hnb6 := NB179_180.out; have hnc6 := NB180_179.out; have hcz7_0 := zy BK179 0; have hcz7_1 := zy BK179 1; have hfz7_0 := blk_frozen BK179.out 0; have hfz7_1 := blk_frozen BK179.out 1; have hcz8_0 := zy BK180 0; have hcz8_1 := zy BK180 1; have hfz8_0 := blk_frozen BK180.out 0; have hfz8_1 := blk_frozen BK180.out 1))
   go_ret
   exact ⟨by first | rfl | (simp [errW_none, errW_some] <;> rfl) | (simp [*, errW_none, errW_some] <;> rfl), zB⟩
 · rw [if_neg c3] at H
   have c3b0 : decide (a0_0 < a1_0) = false := decide_eq_false c3
   clear c3
   by_cases c9 : a0_0 = a1_0
   · rw [if_pos c9] at H
     have c9b0 : (a0_0 == a1_0) = true := beq_iff_eq.mpr c9
     have c9b1 : (a0_0 != a1_0) = false := bne_eq_false_iff_eq.mpr c9
     clear c9
     obtain rfl := Option.some.inj H
     go_enter Try.func154, Try.ntmps154
     go_wp2_with (first | ((with_reducible refine gate_dst (N := 2) rfl ?_); refine zb (w := w) 2 #[.int .i64 a0_0, .int .i64 a0_1] 64 zB ?_; clear HB; intro gb179 w10 HB BK179 GW179; have GE179 := GW179) | ((with_reducible refine gate_dst (N := 3) rfl ?_); refine ze 3 #[.int .i64 a1_0, .int .i64 a1_1] 64 ?_; intro gb180 hg w11 hbox hb; have BK180 := zM (hbox); have GW180 := zM ((by rw [hg]; exact (below_size zB) : w.heap.size ≤ gb180)); have GE180 := zM ((by rw [hg]; exact (below_size zB) : w.heap.size ≤ gb180)); replace HB := zM (below_step zB hb); have NB179_180 := zM ((by rw [hg]; exact Nat.ne_of_lt (blk_lt (g := gb179) (o := .cells #[.int .i64 a0_0, .int .i64 a0_1] 64 (0, 0)) (zK BK179.out)) : gb179 ≠ gb180)); have NB180_179 := zM ((by rw [hg]; exact Nat.ne_of_gt (blk_lt (g := gb179) (o := .cells #[.int .i64 a0_0, .int .i64 a0_1] 64 (0, 0)) (zK BK179.out)) : gb180 ≠ gb179)); replace BK179 := zM (blk_below (g := gb179) (o := .cells #[.int .i64 a0_0, .int .i64 a0_1] 64 (0, 0)) (zK BK179.out) hb); clear hb hbox hg; have hnb12 := NB179_180.out; have hnc12 := NB180_179.out; have hcz13_0 := zy BK179 0; have hcz13_1 := zy BK179 1; have hfz13_0 := blk_frozen BK179.out 0; have hfz13_1 := blk_frozen BK179.out 1; have hcz14_0 := zy BK180 0; have hcz14_1 := zy BK180 1; have hfz14_0 := blk_frozen BK180.out 0; have hfz14_1 := blk_frozen BK180.out 1))
     go_ret
     exact ⟨by first | rfl | (simp [errW_none, errW_some] <;> rfl) | (simp [*, errW_none, errW_some] <;> rfl), zB⟩
   · rw [if_neg c9] at H
     have c9b0 : (a0_0 == a1_0) = false := beq_eq_false_iff_ne.mpr c9
     have c9b1 : (a0_0 != a1_0) = true := bne_iff_ne.mpr c9
     obtain rfl := Option.some.inj H
     go_enter Try.func154, Try.ntmps154
     go_wp2_with (first | ((with_reducible refine gate_dst (N := 2) rfl ?_); refine zb (w := w) 2 #[.int .i64 a0_0, .int .i64 a0_1] 64 zB ?_; clear HB; intro gb179 w15 HB BK179 GW179; have GE179 := GW179) | ((with_reducible refine gate_dst (N := 3) rfl ?_); refine ze 3 #[.int .i64 a1_0, .int .i64 a1_1] 64 ?_; intro gb180 hg w16 hbox hb; have BK180 := zM (hbox); have GW180 := zM ((by rw [hg]; exact (below_size zB) : w.heap.size ≤ gb180)); have GE180 := zM ((by rw [hg]; exact (below_size zB) : w.heap.size ≤ gb180)); replace HB := zM (below_step zB hb); have NB179_180 := zM ((by rw [hg]; exact Nat.ne_of_lt (blk_lt (g := gb179) (o := .cells #[.int .i64 a0_0, .int .i64 a0_1] 64 (0, 0)) (zK BK179.out)) : gb179 ≠ gb180)); have NB180_179 := zM ((by rw [hg]; exact Nat.ne_of_gt (blk_lt (g := gb179) (o := .cells #[.int .i64 a0_0, .int .i64 a0_1] 64 (0, 0)) (zK BK179.out)) : gb180 ≠ gb179)); replace BK179 := zM (blk_below (g := gb179) (o := .cells #[.int .i64 a0_0, .int .i64 a0_1] 64 (0, 0)) (zK BK179.out) hb); clear hb hbox hg; have hnb17 := NB179_180.out; have hnc17 := NB180_179.out; have hcz18_0 := zy BK179 0; have hcz18_1 := zy BK179 1; have hfz18_0 := blk_frozen BK179.out 0; have hfz18_1 := blk_frozen BK179.out 1; have hcz19_0 := zy BK180 0; have hcz19_1 := zy BK180 1; have hfz19_0 := blk_frozen BK180.out 0; have hfz19_1 := blk_frozen BK180.out 1))
     go_ret
     exact ⟨by first | rfl | (simp [errW_none, errW_some] <;> rfl) | (simp [*, errW_none, errW_some] <;> rfl), zB⟩

end Go.Proofs.Ythnojbafclglpaa.P
namespace Go.Proofs.Ythnojbafclglpaa.P
open Go.RowKit Go.Proofs.YthnojbafclglpaaW.PrintWords Go.Proofs.YthnojbafclglpaaW.PrintLast Go.Proofs.YthnojbafclglpaaW.PrintMore
attribute [local go_sem] max2_int min2_int max_two min_two max_three min_three max_four min_four   -- for this text's walks alone
set_option linter.unusedVariables false
set_option linter.unusedSimpArgs false

/-! ### spec_l2Pairs: function 135 -/
def spec_l2Pairs.l0 : Nat → List (S64) → Int → Int → Option (Bool)
 | 0, _, _, _ => none
 | k + 1, x0, x1, x5 => if x5 < (x0.length : Int) then (if 0 ≤ x5 then ((spec_l1In.f ((rd_T64 x0 x5).f0) 0 (wrap64 (x1 - 1))).bind fun t183 => (if t183 = true then ((spec_l1In.f ((rd_T64 x0 x5).f1) 0 (wrap64 (x1 - 1))).bind fun t184 => (if t184 = true then (if ((rd_T64 x0 x5).f0) ≥ ((rd_T64 x0 x5).f1) then (some false) else (if x5 > 0 then (if 0 ≤ (wrap64 (x5 - 1)) then (if (wrap64 (x5 - 1)) < (x0.length : Int) then ((spec_l2Edge.f ((rd_T64 x0 (wrap64 (x5 - 1))).f0) ((rd_T64 x0 (wrap64 (x5 - 1))).f1) ((rd_T64 x0 x5).f0) ((rd_T64 x0 x5).f1)).bind fun t186 => (if t186 = true then (spec_l2Pairs.l0 k x0 x1 (wrap64 (x5 + 1))) else (some false))) else (none)) else (none)) else (spec_l2Pairs.l0 k x0 x1 (wrap64 (x5 + 1))))) else (some false))) else (some false))) else (none)) else (some true)
def spec_l2Pairs.f (k : Nat) (l0 : List (S64)) (a1 : Int) : Option (Bool) := spec_l2Pairs.l0 k l0 a1 0
def spec_l2Pairs.T5 : Bool × List (List Nat × List Nat) := (true, [([], []), ([0], [0]), ([], []), ([2], [2]), ([1, 3], [1, 3]), ([4], [4]), ([5, 4], [5]), ([6], [6]), ([7, 6], [6, 7]), ([6], [6]), ([9, 6], [6, 9]), ([8, 10, 6, 6], [6, 8, 10]), ([11, 6], [6, 11]), ([6, 12], [6, 12]), ([13, 11], [13]), ([14], [14]), ([15, 14], [14, 15]), ([14], [14]), ([17, 14], [14, 17]), ([16, 18, 14], [14, 16, 18]), ([14, 19], [14, 19]), ([20, 14], [20]), ([21], [21]), ([22, 21], [21, 22]), ([23, 21, 21], [21, 23]), ([24], [24]), ([24], [24]), ([26, 24], [24, 26]), ([25, 27, 24], [24, 25, 27]), ([28, 24], [24, 28]), ([24], [24]), ([29, 30, 24, 24], [24, 29, 30]), ([31, 24], [24, 31]), ([24, 32, 21], [21, 24, 32]), ([21, 33], [21, 33])])
def spec_l2Pairs.B5 : List Nat := [0, 1, 0, 4, 15, 31, 63, 127, 255, 127, 639, 2047, 4095, 8191, 16383, 32767, 65535, 32767, 163839, 524287, 1048575, 2097151, 4194303, 8388607, 16777215, 33554431, 33554431, 100663295, 268435455, 536870911, 33554431, 2147483647, 4294967295, 8589934591, 17179869183]
theorem spec_l2Pairs.tab5 : rtab .any (opsOf Try.f135 5) = spec_l2Pairs.T5 := by kernel_rfl
theorem spec_l2Pairs.bits5 : waitsOk spec_l2Pairs.T5.2 spec_l2Pairs.B5 = true := by kernel_rfl
set_option maxHeartbeats 8000000 in
set_option maxRecDepth 100000 in
theorem spec_l2Pairs.calls (k : Nat) (A0 : Option Addr) (c0 : Nat) (l0 : List (S64)) (a1 : Int) (r : Bool) (w : World) (hr0 : Kd.C k64 w A0 l0.length l0) (hc0 : l0.length ≤ c0) (h : spec_l2Pairs.f k l0 a1 = some r) :
 Calls Try.prog 135 #[.slice A0 l0.length c0, .int .i64 a1] w fun e w' => e = .returned (.bool r) ∧ Below w.heap.size w w' := by
 have hu64 := Try.underlying64
 have HR0 := Aside0.mk hr0
 have HC0 := Aside0.mk hc0
 clear hr0 hc0
 have HB := zM (Below.refl w.heap.size w)
 have H : (spec_l2Pairs.l0 k l0 a1 0) = some r := h
 clear h
 have H' := Aside0.mk H
 clear H
 go_enter Try.func135, Try.ntmps135
 go_wp2
 go_loopg [5] k (fun kq v5 w' => ∃ (x5_1 : Int), v5 = .int .i64 x5_1 ∧ Aside0 (spec_l2Pairs.l0 kq l0 a1 x5_1 = some r) ∧ Aside0 (kq ≤ k) ∧ Aside0 (Below w.heap.size w w'))
 case atStart => exact ⟨(0), (by first | rfl | (simp; done) | (simp [*]; done)), H', ⟨Nat.le_refl _⟩, ⟨zB⟩⟩
 case round =>
  clear H'
  try clear c1
  try clear p2
  obtain ⟨x5_1, rfl, HA, HK1, HB⟩ := hrel
  cases gk with
  | zero => exact absurd HA.out (by simp [spec_l2Pairs.l0])
  | succ k1 =>
   have H := HA.out
   clear HA
   simp only [spec_l2Pairs.l0] at H
   by_cases c3 : x5_1 < (l0.length : Int)
   · rw [if_pos c3] at H
     have c3b0 := decide_eq_true c3
     clear c3
     by_cases c4 : 0 ≤ x5_1
     · rw [if_pos c4] at H
       have c4b0 := decide_eq_true c4
       clear c4
       replace H := Option.bind_eq_some_iff.mp H
       obtain ⟨t183, A50, H⟩ := H
       have A5 := Aside0.mk A50
       clear A50
       by_cases c6 : t183 = true
       · subst c6
         rw [if_pos rfl] at H
         replace H := Option.bind_eq_some_iff.mp H
         obtain ⟨t184, A70, H⟩ := H
         have A7 := Aside0.mk A70
         clear A70
         by_cases c8 : t184 = true
         · subst c8
           rw [if_pos rfl] at H
           by_cases c9 : ((rd_T64 l0 x5_1).f0) ≥ ((rd_T64 l0 x5_1).f1)
           · rw [if_pos c9] at H
             have c9b0 : decide (((rd_T64 l0 x5_1).f1) ≤ ((rd_T64 l0 x5_1).f0)) = true := decide_eq_true c9
             clear c9
             obtain rfl := Option.some.inj H
             have p181 : 0 ≤ (x5_1 : Int) := of_decide_eq_true zA
             have q181 : x5_1 < (l0.length : Int) := of_decide_eq_true zA
             obtain ⟨ad181, e181, hx181_0, hx181_1⟩ := at_T64 HR0.out x5_1 p181 q181
             cases e181
             (try replace hx181_0 := (HB.out.cell (World.block_lt_of_cell? w _ hx181_0)).trans hx181_0)
             (try replace hx181_1 := (HB.out.cell (World.block_lt_of_cell? w _ hx181_1)).trans hx181_1)
             replace p181 := eq_true p181
             replace q181 := eq_true q181
             try go_wp2_with (first | ((with_reducible refine gate_dst (N := 6) rfl ?_); refine zb (w := w) 6 #[.int .i64 0, .int .i64 0] 64 zB ?_; clear HB; intro gb182 w10 HB BK182 GW182; have GE182 := GW182; have hcz11_0 := zy BK182 0; have hcz11_1 := zy BK182 1; have hfz11_0 := blk_frozen BK182.out 0; have hfz11_1 := blk_frozen BK182.out 1))
             have n0_ : Aside0 (((w10.setCell ⟨gb182, 0, none⟩ (.int .i64 ((rd_T64 l0 x5_1).f0))).setCell ⟨gb182, 1, none⟩ (.int .i64 ((rd_T64 l0 x5_1).f1))).heap[gb182]? = some (.cells #[.int .i64 ((rd_T64 l0 x5_1).f0), .int .i64 ((rd_T64 l0 x5_1).f1)] 64 (0, 0))) := ⟨by (with_reducible repeat (first | refine blk_drewN ?_ _ | refine blk_drew ?_ | refine blk_alloc ?_ _)); refine blk_put (cs := #[.int .i64 ((rd_T64 l0 x5_1).f0), .int .i64 0]) ?_ 1 _ rfl; (with_reducible repeat (first | refine blk_drewN ?_ _ | refine blk_drew ?_ | refine blk_alloc ?_ _)); refine blk_put (cs := #[.int .i64 0, .int .i64 0]) ?_ 0 _ rfl; (with_reducible repeat (first | refine blk_drewN ?_ _ | refine blk_drew ?_ | refine blk_alloc ?_ _)); exact BK182.out⟩
             have n1_ : Aside0 (Below w.heap.size w ((w10.setCell ⟨gb182, 0, none⟩ (.int .i64 ((rd_T64 l0 x5_1).f0))).setCell ⟨gb182, 1, none⟩ (.int .i64 ((rd_T64 l0 x5_1).f1)))) := ⟨zB⟩
             (try clear BK182)
             (try clear HB)
             generalize ((w10.setCell ⟨gb182, 0, none⟩ (.int .i64 ((rd_T64 l0 x5_1).f0))).setCell ⟨gb182, 1, none⟩ (.int .i64 ((rd_T64 l0 x5_1).f1))) = w12 at n0_ n1_ ⊢
             have BK182 := n0_
             have HB := n1_
             clear n0_ n1_
             replace BK182 := zM (blk_drew BK182.out)
             replace HB := zM (below_drew1 HB.out)
             refine zs (n := 35) (fun w' => w'.cell? ⟨gb182, 0, none⟩ = some (.int .i64 ((rd_T64 l0 x5_1).f0)) ∧ w'.cell? ⟨gb182, 1, none⟩ = some (.int .i64 ((rd_T64 l0 x5_1).f1))) ⟨(blk_cell BK182.out 0).trans rfl, (blk_cell BK182.out 1).trans rfl⟩ (fun hHeld => ?_); refine with_tabW spec_l2Pairs.tab5 spec_l2Pairs.bits5 (fun HT_ HW_ => ?_)
             generalize w12.drew = w13 at BK182 HB hHeld ⊢
             refine zp HT_ 0 17 ?_
             refine zp HT_ 2 19 ?_
             refine zp HT_ 3 20 ?_
             refine zt HT_ HW_ 1 18 hHeld ?_ (hy := by rintro w' ⟨s0, s1⟩; go_simp; with_reducible rfl)
             refine zg HT_ 4 21 Try.func136 #[.int .i64 ((rd_T64 l0 x5_1).f0), .int .i64 0, .int .i64 (wrap64 (a1 - 1))] (fun K hK => ?_)
             with_reducible refine (spec_l1In.calls ((rd_T64 l0 x5_1).f0) 0 (wrap64 (a1 - 1)) true _ A5.out).mono ?_
             rintro e w' ⟨rfl, ⟨nd, rfl⟩⟩
             refine ⟨_, rfl, ?_⟩
             refine hK.out _ _ ⟨(blk_cell BK182.out 0).trans rfl, (blk_cell BK182.out 1).trans rfl⟩ (fun hHeld => ?_)
             clear hK K
             refine zn 21 ?_
             refine zp HT_ 5 22 ?_
             refine zp HT_ 6 23 ?_
             refine zp HT_ 7 24 ?_
             refine zp HT_ 9 26 ?_
             refine zp HT_ 10 27 ?_
             refine zt HT_ HW_ 8 25 hHeld ?_ (hy := by rintro w' ⟨s0, s1⟩; go_simp; with_reducible rfl)
             refine zg HT_ 11 28 Try.func136 #[.int .i64 ((rd_T64 l0 x5_1).f1), .int .i64 0, .int .i64 (wrap64 (a1 - 1))] (fun K hK => ?_)
             with_reducible refine (spec_l1In.calls ((rd_T64 l0 x5_1).f1) 0 (wrap64 (a1 - 1)) true _ A7.out).mono ?_
             rintro e w' ⟨rfl, ⟨nd, rfl⟩⟩
             refine ⟨_, rfl, ?_⟩
             refine hK.out _ _ ⟨(blk_cell BK182.out 0).trans rfl, (blk_cell BK182.out 1).trans rfl⟩ (fun hHeld => ?_)
             clear hK K
             refine zn 28 ?_
             refine zp HT_ 12 29 ?_
             refine zp HT_ 13 30 ?_
             refine zp HT_ 14 31 ?_
             refine zp HT_ 15 32 ?_
             refine zp HT_ 17 34 ?_
             refine zt HT_ HW_ 16 33 hHeld ?_ (hy := by rintro w' ⟨s0, s1⟩; go_simp; with_reducible rfl)
             refine zt HT_ HW_ 18 35 hHeld ?_ (hy := by rintro w' ⟨s0, s1⟩; go_simp; with_reducible rfl)
             refine zp HT_ 19 36 ?_
             refine zp HT_ 20 37 ?_
             refine zp HT_ 21 38 ?_
             refine zu HT_ 22 39 ?_
             refine zu HT_ 23 40 ?_
             refine zu HT_ 24 41 ?_
             refine zu HT_ 25 42 ?_
             refine zu HT_ 26 43 ?_
             refine zu HT_ 27 44 ?_
             refine zu HT_ 28 45 ?_
             refine zu HT_ 29 46 ?_
             refine zu HT_ 30 47 ?_
             refine zu HT_ 31 48 ?_
             refine zu HT_ 32 49 ?_
             refine zu HT_ 33 50 ?_
             refine zp HT_ 34 51 ?_
             refine zo HT_ ?_
             try go_wp2
             go_ret
             exact ⟨by first | rfl | (simp [errW_none, errW_some] <;> rfl) | (simp [*, errW_none, errW_some] <;> rfl), zB⟩
           · rw [if_neg c9] at H
             have c9b0 : decide (((rd_T64 l0 x5_1).f1) ≤ ((rd_T64 l0 x5_1).f0)) = false := decide_eq_false c9
             clear c9
             by_cases c14 : x5_1 > 0
             · rw [if_pos c14] at H
               have c14b0 : decide (0 < x5_1) = true := decide_eq_true c14
               clear c14
               obtain ⟨ji15, hji15⟩ : ∃ j_ : Int, (wrap64 (x5_1 - 1)) = j_ := ⟨_, rfl⟩
               replace H : (if 0 ≤ (ji15) then (if (ji15) < (l0.length : Int) then ((spec_l2Edge.f ((rd_T64 l0 (ji15)).f0) ((rd_T64 l0 (ji15)).f1) ((rd_T64 l0 x5_1).f0) ((rd_T64 l0 x5_1).f1)).bind fun t186 => (if t186 = true then (spec_l2Pairs.l0 k1 l0 a1 (wrap64 (x5_1 + 1))) else (some false))) else (none)) else (none)) = some r := by first | (rw [hji15] at H; exact H) | (simp only [hji15] at H ⊢; exact H)
               (try rw [hji15] at A5)
               (try rw [hji15] at A7)
               have hji15w : (IntKind.i64.wrap (x5_1 - 1)) = ji15 := (i64_w _).trans hji15
               by_cases c16 : 0 ≤ (ji15)
               · rw [if_pos c16] at H
                 have c16b0 := decide_eq_true c16
                 clear c16
                 by_cases c17 : (ji15) < (l0.length : Int)
                 · rw [if_pos c17] at H
                   have c17b0 := decide_eq_true c17
                   clear c17
                   replace H := Option.bind_eq_some_iff.mp H
                   obtain ⟨t186, A180, H⟩ := H
                   have A18 := Aside0.mk A180
                   clear A180
                   by_cases c19 : t186 = true
                   · subst c19
                     rw [if_pos rfl] at H
                     have H' := Aside0.mk H
                     clear H
                     have p181 : 0 ≤ (x5_1 : Int) := of_decide_eq_true zA
                     have q181 : x5_1 < (l0.length : Int) := of_decide_eq_true zA
                     obtain ⟨ad181, e181, hx181_0, hx181_1⟩ := at_T64 HR0.out x5_1 p181 q181
                     cases e181
                     (try replace hx181_0 := (HB.out.cell (World.block_lt_of_cell? w _ hx181_0)).trans hx181_0)
                     (try replace hx181_1 := (HB.out.cell (World.block_lt_of_cell? w _ hx181_1)).trans hx181_1)
                     replace p181 := eq_true p181
                     replace q181 := eq_true q181
                     try go_wp2_with (first | ((with_reducible refine gate_dst (N := 6) rfl ?_); refine zb (w := w) 6 #[.int .i64 0, .int .i64 0] 64 zB ?_; clear HB; intro gb182 w20 HB BK182 GW182; have GE182 := GW182; have hcz21_0 := zy BK182 0; have hcz21_1 := zy BK182 1; have hfz21_0 := blk_frozen BK182.out 0; have hfz21_1 := blk_frozen BK182.out 1))
                     have n0_ : Aside0 (((w20.setCell ⟨gb182, 0, none⟩ (.int .i64 ((rd_T64 l0 x5_1).f0))).setCell ⟨gb182, 1, none⟩ (.int .i64 ((rd_T64 l0 x5_1).f1))).heap[gb182]? = some (.cells #[.int .i64 ((rd_T64 l0 x5_1).f0), .int .i64 ((rd_T64 l0 x5_1).f1)] 64 (0, 0))) := ⟨by (with_reducible repeat (first | refine blk_drewN ?_ _ | refine blk_drew ?_ | refine blk_alloc ?_ _)); refine blk_put (cs := #[.int .i64 ((rd_T64 l0 x5_1).f0), .int .i64 0]) ?_ 1 _ rfl; (with_reducible repeat (first | refine blk_drewN ?_ _ | refine blk_drew ?_ | refine blk_alloc ?_ _)); refine blk_put (cs := #[.int .i64 0, .int .i64 0]) ?_ 0 _ rfl; (with_reducible repeat (first | refine blk_drewN ?_ _ | refine blk_drew ?_ | refine blk_alloc ?_ _)); exact BK182.out⟩
                     have n1_ : Aside0 (Below w.heap.size w ((w20.setCell ⟨gb182, 0, none⟩ (.int .i64 ((rd_T64 l0 x5_1).f0))).setCell ⟨gb182, 1, none⟩ (.int .i64 ((rd_T64 l0 x5_1).f1)))) := ⟨zB⟩
                     (try clear BK182)
                     (try clear HB)
                     generalize ((w20.setCell ⟨gb182, 0, none⟩ (.int .i64 ((rd_T64 l0 x5_1).f0))).setCell ⟨gb182, 1, none⟩ (.int .i64 ((rd_T64 l0 x5_1).f1))) = w22 at n0_ n1_ ⊢
                     have BK182 := n0_
                     have HB := n1_
                     clear n0_ n1_
                     replace BK182 := zM (blk_drew BK182.out)
                     replace HB := zM (below_drew1 HB.out)
                     have p185 : 0 ≤ ((ji15) : Int) := of_decide_eq_true zA
                     have q185 : (ji15) < (l0.length : Int) := of_decide_eq_true zA
                     obtain ⟨ad185, e185, hx185_0, hx185_1⟩ := at_T64 HR0.out (ji15) p185 q185
                     have hw185_1 := hx185_1
                     have hw185_0 := hx185_0
                     obtain rfl : ad181 = ad185 := (by injection e185)
                     (try replace hx185_0 := (HB.out.cell (World.block_lt_of_cell? w _ hx185_0)).trans hx185_0)
                     (try replace hx185_1 := (HB.out.cell (World.block_lt_of_cell? w _ hx185_1)).trans hx185_1)
                     replace p185 := eq_true p185
                     replace q185 := eq_true q185
                     refine zs (n := 35) (fun w' => w'.cell? ⟨gb182, 0, none⟩ = some (.int .i64 ((rd_T64 l0 x5_1).f0)) ∧ w'.cell? ⟨gb182, 1, none⟩ = some (.int .i64 ((rd_T64 l0 x5_1).f1)) ∧ w'.cell? (ad181.add (((ji15)).toNat * 2)) = some (.int .i64 ((rd_T64 l0 (ji15)).f0)) ∧ w'.cell? ⟨(ad181.add (((ji15)).toNat * 2)).block, (ad181.add (((ji15)).toNat * 2)).off + 1, none⟩ = some (.int .i64 ((rd_T64 l0 (ji15)).f1))) ⟨(blk_cell BK182.out 0).trans rfl, (blk_cell BK182.out 1).trans rfl, ((HB.out.cell (World.block_lt_of_cell? w _ hw185_0)).trans hw185_0), ((HB.out.cell (World.block_lt_of_cell? w _ hw185_1)).trans hw185_1)⟩ (fun hHeld => ?_); refine with_tabW spec_l2Pairs.tab5 spec_l2Pairs.bits5 (fun HT_ HW_ => ?_)
                     generalize w22.drew = w23 at BK182 HB hx185_0 hx185_1 hHeld ⊢
                     refine zp HT_ 0 17 ?_
                     refine zp HT_ 2 19 ?_
                     refine zp HT_ 3 20 ?_
                     refine zt HT_ HW_ 1 18 hHeld ?_ (hy := by rintro w' ⟨s0, s1, s2, s3⟩; go_simp; with_reducible rfl)
                     refine zg HT_ 4 21 Try.func136 #[.int .i64 ((rd_T64 l0 x5_1).f0), .int .i64 0, .int .i64 (wrap64 (a1 - 1))] (fun K hK => ?_)
                     with_reducible refine (spec_l1In.calls ((rd_T64 l0 x5_1).f0) 0 (wrap64 (a1 - 1)) true _ A5.out).mono ?_
                     rintro e w' ⟨rfl, ⟨nd, rfl⟩⟩
                     refine ⟨_, rfl, ?_⟩
                     refine hK.out _ _ ⟨(blk_cell BK182.out 0).trans rfl, (blk_cell BK182.out 1).trans rfl, ((HB.out.cell (World.block_lt_of_cell? w _ hw185_0)).trans hw185_0), ((HB.out.cell (World.block_lt_of_cell? w _ hw185_1)).trans hw185_1)⟩ (fun hHeld => ?_)
                     clear hK K
                     refine zn 21 ?_
                     refine zp HT_ 5 22 ?_
                     refine zp HT_ 6 23 ?_
                     refine zp HT_ 7 24 ?_
                     refine zp HT_ 9 26 ?_
                     refine zp HT_ 10 27 ?_
                     refine zt HT_ HW_ 8 25 hHeld ?_ (hy := by rintro w' ⟨s0, s1, s2, s3⟩; go_simp; with_reducible rfl)
                     refine zg HT_ 11 28 Try.func136 #[.int .i64 ((rd_T64 l0 x5_1).f1), .int .i64 0, .int .i64 (wrap64 (a1 - 1))] (fun K hK => ?_)
                     with_reducible refine (spec_l1In.calls ((rd_T64 l0 x5_1).f1) 0 (wrap64 (a1 - 1)) true _ A7.out).mono ?_
                     rintro e w' ⟨rfl, ⟨nd, rfl⟩⟩
                     refine ⟨_, rfl, ?_⟩
                     refine hK.out _ _ ⟨(blk_cell BK182.out 0).trans rfl, (blk_cell BK182.out 1).trans rfl, ((HB.out.cell (World.block_lt_of_cell? w _ hw185_0)).trans hw185_0), ((HB.out.cell (World.block_lt_of_cell? w _ hw185_1)).trans hw185_1)⟩ (fun hHeld => ?_)
                     clear hK K
                     refine zn 28 ?_
                     refine zp HT_ 12 29 ?_
                     refine zp HT_ 13 30 ?_
                     refine zp HT_ 14 31 ?_
                     refine zp HT_ 15 32 ?_
                     refine zp HT_ 17 34 ?_
                     refine zt HT_ HW_ 16 33 hHeld ?_ (hy := by rintro w' ⟨s0, s1, s2, s3⟩; go_simp; with_reducible rfl)
                     refine zt HT_ HW_ 18 35 hHeld ?_ (hy := by rintro w' ⟨s0, s1, s2, s3⟩; go_simp; with_reducible rfl)
                     refine zp HT_ 19 36 ?_
                     refine zp HT_ 20 37 ?_
                     refine zp HT_ 21 38 ?_
                     refine zp HT_ 22 39 ?_
                     refine zp HT_ 23 40 ?_
                     refine zp HT_ 24 41 ?_
                     refine zp HT_ 25 42 ?_
                     refine zp HT_ 26 43 ?_
                     refine zp HT_ 27 44 ?_
                     refine zp HT_ 28 45 ?_
                     refine zt HT_ HW_ 29 46 hHeld ?_ (hy := by rintro w' ⟨s0, s1, s2, s3⟩; go_simp; with_reducible rfl)
                     refine zt HT_ HW_ 30 47 hHeld ?_ (hy := by rintro w' ⟨s0, s1, s2, s3⟩; go_simp; with_reducible rfl)
                     refine one_ (i := 31) (N := some 48) #[true, true, true, true, true, true, true, true, true, true, true, true, true, true, true, true, true, true, true, true, true, true, true, true, true, true, true, true, true, true, true, true, false, false, false] rfl rfl (one_of HT_.out (by kernel_rfl)) (by decide) (fun K hK => ?_)
                     refine goes_ Try.func154 (by kernel_rfl) rfl #[.agg #[.int .i64 ((rd_T64 l0 (ji15)).f0), .int .i64 ((rd_T64 l0 (ji15)).f1)], .agg #[.int .i64 ((rd_T64 l0 x5_1).f0), .int .i64 ((rd_T64 l0 x5_1).f1)]] (by rfl) rfl rfl (by (try simp only [List.map_toArray, List.map_cons, List.map_nil]); first | done | (simp only [hji15]; rfl) | rfl | (simp only [List.length_drop, List.length_take]; rfl)) ?_
                     with_reducible refine (spec_l2Edge.calls ((rd_T64 l0 (ji15)).f0) ((rd_T64 l0 (ji15)).f1) ((rd_T64 l0 x5_1).f0) ((rd_T64 l0 x5_1).f1) true _ A18.out).mono ?_
                     rintro e w24 ⟨rfl, hb⟩
                     refine ⟨_, rfl, ?_⟩
                     replace BK182 := zM (blk_below (g := gb182) (o := .cells #[.int .i64 ((rd_T64 l0 x5_1).f0), .int .i64 ((rd_T64 l0 x5_1).f1)] 64 (0, 0)) (zK BK182.out) hb)
                     replace HB := zM (below_step zB hb)
                     (try clear hb)
                     (try clear hb2)
                     (try clear hk)
                     (try clear hi)
                     refine hK.out _ _ ⟨(blk_cell BK182.out 0).trans rfl, (blk_cell BK182.out 1).trans rfl, ((HB.out.cell (World.block_lt_of_cell? w _ hw185_0)).trans hw185_0), ((HB.out.cell (World.block_lt_of_cell? w _ hw185_1)).trans hw185_1)⟩ (fun hHeld => ?_)
                     clear hK K
                     refine zn 48 ?_
                     refine zp HT_ 32 49 ?_
                     refine zp HT_ 33 50 ?_
                     refine zp HT_ 34 51 ?_
                     refine zo HT_ ?_
                     try go_wp2
                     go_roundg k1
                     case measure => have := HK1.out; omega
                     case rel => exact ⟨(wrap64 (x5_1 + 1)), (by first | rfl | (simp; done) | (simp [*]; done)), H', ⟨by have := HK1.out; omega⟩, ⟨zB⟩⟩
                   · replace c19 := Bool.eq_false_iff.mpr c19
                     subst c19
                     have H1 : (some false) = some r := by rw [if_neg (show ¬ (false = true) by decide)] at H; exact H
                     clear H
                     have H := H1
                     clear H1
                     obtain rfl := Option.some.inj H
                     have p181 : 0 ≤ (x5_1 : Int) := of_decide_eq_true zA
                     have q181 : x5_1 < (l0.length : Int) := of_decide_eq_true zA
                     obtain ⟨ad181, e181, hx181_0, hx181_1⟩ := at_T64 HR0.out x5_1 p181 q181
                     cases e181
                     (try replace hx181_0 := (HB.out.cell (World.block_lt_of_cell? w _ hx181_0)).trans hx181_0)
                     (try replace hx181_1 := (HB.out.cell (World.block_lt_of_cell? w _ hx181_1)).trans hx181_1)
                     replace p181 := eq_true p181
                     replace q181 := eq_true q181
                     try go_wp2_with (first | ((with_reducible refine gate_dst (N := 6) rfl ?_); refine zb (w := w) 6 #[.int .i64 0, .int .i64 0] 64 zB ?_; clear HB; intro gb182 w25 HB BK182 GW182; have GE182 := GW182; have hcz26_0 := zy BK182 0; have hcz26_1 := zy BK182 1; have hfz26_0 := blk_frozen BK182.out 0; have hfz26_1 := blk_frozen BK182.out 1))
                     have n0_ : Aside0 (((w25.setCell ⟨gb182, 0, none⟩ (.int .i64 ((rd_T64 l0 x5_1).f0))).setCell ⟨gb182, 1, none⟩ (.int .i64 ((rd_T64 l0 x5_1).f1))).heap[gb182]? = some (.cells #[.int .i64 ((rd_T64 l0 x5_1).f0), .int .i64 ((rd_T64 l0 x5_1).f1)] 64 (0, 0))) := ⟨by (with_reducible repeat (first | refine blk_drewN ?_ _ | refine blk_drew ?_ | refine blk_alloc ?_ _)); refine blk_put (cs := #[.int .i64 ((rd_T64 l0 x5_1).f0), .int .i64 0]) ?_ 1 _ rfl; (with_reducible repeat (first | refine blk_drewN ?_ _ | refine blk_drew ?_ | refine blk_alloc ?_ _)); refine blk_put (cs := #[.int .i64 0, .int .i64 0]) ?_ 0 _ rfl; (with_reducible repeat (first | refine blk_drewN ?_ _ | refine blk_drew ?_ | refine blk_alloc ?_ _)); exact BK182.out⟩
                     have n1_ : Aside0 (Below w.heap.size w ((w25.setCell ⟨gb182, 0, none⟩ (.int .i64 ((rd_T64 l0 x5_1).f0))).setCell ⟨gb182, 1, none⟩ (.int .i64 ((rd_T64 l0 x5_1).f1)))) := ⟨zB⟩
                     (try clear BK182)
                     (try clear HB)
                     generalize ((w25.setCell ⟨gb182, 0, none⟩ (.int .i64 ((rd_T64 l0 x5_1).f0))).setCell ⟨gb182, 1, none⟩ (.int .i64 ((rd_T64 l0 x5_1).f1))) = w27 at n0_ n1_ ⊢
                     have BK182 := n0_
                     have HB := n1_
                     clear n0_ n1_
                     replace BK182 := zM (blk_drew BK182.out)
                     replace HB := zM (below_drew1 HB.out)
                     have p185 : 0 ≤ ((ji15) : Int) := of_decide_eq_true zA
                     have q185 : (ji15) < (l0.length : Int) := of_decide_eq_true zA
                     obtain ⟨ad185, e185, hx185_0, hx185_1⟩ := at_T64 HR0.out (ji15) p185 q185
                     have hw185_1 := hx185_1
                     have hw185_0 := hx185_0
                     obtain rfl : ad181 = ad185 := (by injection e185)
                     (try replace hx185_0 := (HB.out.cell (World.block_lt_of_cell? w _ hx185_0)).trans hx185_0)
                     (try replace hx185_1 := (HB.out.cell (World.block_lt_of_cell? w _ hx185_1)).trans hx185_1)
                     replace p185 := eq_true p185
                     replace q185 := eq_true q185
                     refine zs (n := 35) (fun w' => w'.cell? ⟨gb182, 0, none⟩ = some (.int .i64 ((rd_T64 l0 x5_1).f0)) ∧ w'.cell? ⟨gb182, 1, none⟩ = some (.int .i64 ((rd_T64 l0 x5_1).f1)) ∧ w'.cell? (ad181.add (((ji15)).toNat * 2)) = some (.int .i64 ((rd_T64 l0 (ji15)).f0)) ∧ w'.cell? ⟨(ad181.add (((ji15)).toNat * 2)).block, (ad181.add (((ji15)).toNat * 2)).off + 1, none⟩ = some (.int .i64 ((rd_T64 l0 (ji15)).f1))) ⟨(blk_cell BK182.out 0).trans rfl, (blk_cell BK182.out 1).trans rfl, ((HB.out.cell (World.block_lt_of_cell? w _ hw185_0)).trans hw185_0), ((HB.out.cell (World.block_lt_of_cell? w _ hw185_1)).trans hw185_1)⟩ (fun hHeld => ?_); refine with_tabW spec_l2Pairs.tab5 spec_l2Pairs.bits5 (fun HT_ HW_ => ?_)
                     generalize w27.drew = w28 at BK182 HB hx185_0 hx185_1 hHeld ⊢
                     refine zp HT_ 0 17 ?_
                     refine zp HT_ 2 19 ?_
                     refine zp HT_ 3 20 ?_
                     refine zt HT_ HW_ 1 18 hHeld ?_ (hy := by rintro w' ⟨s0, s1, s2, s3⟩; go_simp; with_reducible rfl)
                     refine zg HT_ 4 21 Try.func136 #[.int .i64 ((rd_T64 l0 x5_1).f0), .int .i64 0, .int .i64 (wrap64 (a1 - 1))] (fun K hK => ?_)
                     with_reducible refine (spec_l1In.calls ((rd_T64 l0 x5_1).f0) 0 (wrap64 (a1 - 1)) true _ A5.out).mono ?_
                     rintro e w' ⟨rfl, ⟨nd, rfl⟩⟩
                     refine ⟨_, rfl, ?_⟩
                     refine hK.out _ _ ⟨(blk_cell BK182.out 0).trans rfl, (blk_cell BK182.out 1).trans rfl, ((HB.out.cell (World.block_lt_of_cell? w _ hw185_0)).trans hw185_0), ((HB.out.cell (World.block_lt_of_cell? w _ hw185_1)).trans hw185_1)⟩ (fun hHeld => ?_)
                     clear hK K
                     refine zn 21 ?_
                     refine zp HT_ 5 22 ?_
                     refine zp HT_ 6 23 ?_
                     refine zp HT_ 7 24 ?_
                     refine zp HT_ 9 26 ?_
                     refine zp HT_ 10 27 ?_
                     refine zt HT_ HW_ 8 25 hHeld ?_ (hy := by rintro w' ⟨s0, s1, s2, s3⟩; go_simp; with_reducible rfl)
                     refine zg HT_ 11 28 Try.func136 #[.int .i64 ((rd_T64 l0 x5_1).f1), .int .i64 0, .int .i64 (wrap64 (a1 - 1))] (fun K hK => ?_)
                     with_reducible refine (spec_l1In.calls ((rd_T64 l0 x5_1).f1) 0 (wrap64 (a1 - 1)) true _ A7.out).mono ?_
                     rintro e w' ⟨rfl, ⟨nd, rfl⟩⟩
                     refine ⟨_, rfl, ?_⟩
                     refine hK.out _ _ ⟨(blk_cell BK182.out 0).trans rfl, (blk_cell BK182.out 1).trans rfl, ((HB.out.cell (World.block_lt_of_cell? w _ hw185_0)).trans hw185_0), ((HB.out.cell (World.block_lt_of_cell? w _ hw185_1)).trans hw185_1)⟩ (fun hHeld => ?_)
                     clear hK K
                     refine zn 28 ?_
                     refine zp HT_ 12 29 ?_
                     refine zp HT_ 13 30 ?_
                     refine zp HT_ 14 31 ?_
                     refine zp HT_ 15 32 ?_
                     refine zp HT_ 17 34 ?_
                     refine zt HT_ HW_ 16 33 hHeld ?_ (hy := by rintro w' ⟨s0, s1, s2, s3⟩; go_simp; with_reducible rfl)
                     refine zt HT_ HW_ 18 35 hHeld ?_ (hy := by rintro w' ⟨s0, s1, s2, s3⟩; go_simp; with_reducible rfl)
                     refine zp HT_ 19 36 ?_
                     refine zp HT_ 20 37 ?_
                     refine zp HT_ 21 38 ?_
                     refine zp HT_ 22 39 ?_
                     refine zp HT_ 23 40 ?_
                     refine zp HT_ 24 41 ?_
                     refine zp HT_ 25 42 ?_
                     refine zp HT_ 26 43 ?_
                     refine zp HT_ 27 44 ?_
                     refine zp HT_ 28 45 ?_
                     refine zt HT_ HW_ 29 46 hHeld ?_ (hy := by rintro w' ⟨s0, s1, s2, s3⟩; go_simp; with_reducible rfl)
                     refine zt HT_ HW_ 30 47 hHeld ?_ (hy := by rintro w' ⟨s0, s1, s2, s3⟩; go_simp; with_reducible rfl)
                     refine one_ (i := 31) (N := some 48) #[true, true, true, true, true, true, true, true, true, true, true, true, true, true, true, true, true, true, true, true, true, true, true, true, true, true, true, true, true, true, true, true, false, false, false] rfl rfl (one_of HT_.out (by kernel_rfl)) (by decide) (fun K hK => ?_)
                     refine goes_ Try.func154 (by kernel_rfl) rfl #[.agg #[.int .i64 ((rd_T64 l0 (ji15)).f0), .int .i64 ((rd_T64 l0 (ji15)).f1)], .agg #[.int .i64 ((rd_T64 l0 x5_1).f0), .int .i64 ((rd_T64 l0 x5_1).f1)]] (by rfl) rfl rfl (by (try simp only [List.map_toArray, List.map_cons, List.map_nil]); first | done | (simp only [hji15]; rfl) | rfl | (simp only [List.length_drop, List.length_take]; rfl)) ?_
                     with_reducible refine (spec_l2Edge.calls ((rd_T64 l0 (ji15)).f0) ((rd_T64 l0 (ji15)).f1) ((rd_T64 l0 x5_1).f0) ((rd_T64 l0 x5_1).f1) false _ A18.out).mono ?_
                     rintro e w29 ⟨rfl, hb⟩
                     refine ⟨_, rfl, ?_⟩
                     replace BK182 := zM (blk_below (g := gb182) (o := .cells #[.int .i64 ((rd_T64 l0 x5_1).f0), .int .i64 ((rd_T64 l0 x5_1).f1)] 64 (0, 0)) (zK BK182.out) hb)
                     replace HB := zM (below_step zB hb)
                     (try clear hb)
                     (try clear hb2)
                     (try clear hk)
                     (try clear hi)
                     refine hK.out _ _ ⟨(blk_cell BK182.out 0).trans rfl, (blk_cell BK182.out 1).trans rfl, ((HB.out.cell (World.block_lt_of_cell? w _ hw185_0)).trans hw185_0), ((HB.out.cell (World.block_lt_of_cell? w _ hw185_1)).trans hw185_1)⟩ (fun hHeld => ?_)
                     clear hK K
                     refine zn 48 ?_
                     refine zp HT_ 32 49 ?_
                     refine zp HT_ 33 50 ?_
                     refine zp HT_ 34 51 ?_
                     refine zo HT_ ?_
                     try go_wp2
                     go_ret
                     exact ⟨by first | rfl | (simp [errW_none, errW_some] <;> rfl) | (simp only [← hji15]; first | rfl | (simp [errW_none, errW_some] <;> rfl)) | (simp [*, errW_none, errW_some] <;> rfl), zB⟩
                 · rw [if_neg c17] at H
                   exact absurd H (by simp)
               · rw [if_neg c16] at H
                 exact absurd H (by simp)
             · rw [if_neg c14] at H
               have c14b0 : decide (0 < x5_1) = false := decide_eq_false c14
               clear c14
               have H' := Aside0.mk H
               clear H
               have p181 : 0 ≤ (x5_1 : Int) := of_decide_eq_true zA
               have q181 : x5_1 < (l0.length : Int) := of_decide_eq_true zA
               obtain ⟨ad181, e181, hx181_0, hx181_1⟩ := at_T64 HR0.out x5_1 p181 q181
               cases e181
               (try replace hx181_0 := (HB.out.cell (World.block_lt_of_cell? w _ hx181_0)).trans hx181_0)
               (try replace hx181_1 := (HB.out.cell (World.block_lt_of_cell? w _ hx181_1)).trans hx181_1)
               replace p181 := eq_true p181
               replace q181 := eq_true q181
               try go_wp2_with (first | ((with_reducible refine gate_dst (N := 6) rfl ?_); refine zb (w := w) 6 #[.int .i64 0, .int .i64 0] 64 zB ?_; clear HB; intro gb182 w30 HB BK182 GW182; have GE182 := GW182; have hcz31_0 := zy BK182 0; have hcz31_1 := zy BK182 1; have hfz31_0 := blk_frozen BK182.out 0; have hfz31_1 := blk_frozen BK182.out 1))
               have n0_ : Aside0 (((w30.setCell ⟨gb182, 0, none⟩ (.int .i64 ((rd_T64 l0 x5_1).f0))).setCell ⟨gb182, 1, none⟩ (.int .i64 ((rd_T64 l0 x5_1).f1))).heap[gb182]? = some (.cells #[.int .i64 ((rd_T64 l0 x5_1).f0), .int .i64 ((rd_T64 l0 x5_1).f1)] 64 (0, 0))) := ⟨by (with_reducible repeat (first | refine blk_drewN ?_ _ | refine blk_drew ?_ | refine blk_alloc ?_ _)); refine blk_put (cs := #[.int .i64 ((rd_T64 l0 x5_1).f0), .int .i64 0]) ?_ 1 _ rfl; (with_reducible repeat (first | refine blk_drewN ?_ _ | refine blk_drew ?_ | refine blk_alloc ?_ _)); refine blk_put (cs := #[.int .i64 0, .int .i64 0]) ?_ 0 _ rfl; (with_reducible repeat (first | refine blk_drewN ?_ _ | refine blk_drew ?_ | refine blk_alloc ?_ _)); exact BK182.out⟩
               have n1_ : Aside0 (Below w.heap.size w ((w30.setCell ⟨gb182, 0, none⟩ (.int .i64 ((rd_T64 l0 x5_1).f0))).setCell ⟨gb182, 1, none⟩ (.int .i64 ((rd_T64 l0 x5_1).f1)))) := ⟨zB⟩
               (try clear BK182)
               (try clear HB)
               generalize ((w30.setCell ⟨gb182, 0, none⟩ (.int .i64 ((rd_T64 l0 x5_1).f0))).setCell ⟨gb182, 1, none⟩ (.int .i64 ((rd_T64 l0 x5_1).f1))) = w32 at n0_ n1_ ⊢
               have BK182 := n0_
               have HB := n1_
               clear n0_ n1_
               replace BK182 := zM (blk_drew BK182.out)
               replace HB := zM (below_drew1 HB.out)
               refine zs (n := 35) (fun w' => w'.cell? ⟨gb182, 0, none⟩ = some (.int .i64 ((rd_T64 l0 x5_1).f0)) ∧ w'.cell? ⟨gb182, 1, none⟩ = some (.int .i64 ((rd_T64 l0 x5_1).f1))) ⟨(blk_cell BK182.out 0).trans rfl, (blk_cell BK182.out 1).trans rfl⟩ (fun hHeld => ?_); refine with_tabW spec_l2Pairs.tab5 spec_l2Pairs.bits5 (fun HT_ HW_ => ?_)
               generalize w32.drew = w33 at BK182 HB hHeld ⊢
               refine zp HT_ 0 17 ?_
               refine zp HT_ 2 19 ?_
               refine zp HT_ 3 20 ?_
               refine zt HT_ HW_ 1 18 hHeld ?_ (hy := by rintro w' ⟨s0, s1⟩; go_simp; with_reducible rfl)
               refine zg HT_ 4 21 Try.func136 #[.int .i64 ((rd_T64 l0 x5_1).f0), .int .i64 0, .int .i64 (wrap64 (a1 - 1))] (fun K hK => ?_)
               with_reducible refine (spec_l1In.calls ((rd_T64 l0 x5_1).f0) 0 (wrap64 (a1 - 1)) true _ A5.out).mono ?_
               rintro e w' ⟨rfl, ⟨nd, rfl⟩⟩
               refine ⟨_, rfl, ?_⟩
               refine hK.out _ _ ⟨(blk_cell BK182.out 0).trans rfl, (blk_cell BK182.out 1).trans rfl⟩ (fun hHeld => ?_)
               clear hK K
               refine zn 21 ?_
               refine zp HT_ 5 22 ?_
               refine zp HT_ 6 23 ?_
               refine zp HT_ 7 24 ?_
               refine zp HT_ 9 26 ?_
               refine zp HT_ 10 27 ?_
               refine zt HT_ HW_ 8 25 hHeld ?_ (hy := by rintro w' ⟨s0, s1⟩; go_simp; with_reducible rfl)
               refine zg HT_ 11 28 Try.func136 #[.int .i64 ((rd_T64 l0 x5_1).f1), .int .i64 0, .int .i64 (wrap64 (a1 - 1))] (fun K hK => ?_)
               with_reducible refine (spec_l1In.calls ((rd_T64 l0 x5_1).f1) 0 (wrap64 (a1 - 1)) true _ A7.out).mono ?_
               rintro e w' ⟨rfl, ⟨nd, rfl⟩⟩
               refine ⟨_, rfl, ?_⟩
               refine hK.out _ _ ⟨(blk_cell BK182.out 0).trans rfl, (blk_cell BK182.out 1).trans rfl⟩ (fun hHeld => ?_)
               clear hK K
               refine zn 28 ?_
               refine zp HT_ 12 29 ?_
               refine zp HT_ 13 30 ?_
               refine zp HT_ 14 31 ?_
               refine zp HT_ 15 32 ?_
               refine zp HT_ 17 34 ?_
               refine zt HT_ HW_ 16 33 hHeld ?_ (hy := by rintro w' ⟨s0, s1⟩; go_simp; with_reducible rfl)
               refine zt HT_ HW_ 18 35 hHeld ?_ (hy := by rintro w' ⟨s0, s1⟩; go_simp; with_reducible rfl)
               refine zp HT_ 19 36 ?_
               refine zp HT_ 20 37 ?_
               refine zp HT_ 21 38 ?_
               refine zp HT_ 22 39 ?_
               refine zp HT_ 23 40 ?_
               refine zp HT_ 24 41 ?_
               refine zu HT_ 25 42 ?_
               refine zu HT_ 26 43 ?_
               refine zu HT_ 27 44 ?_
               refine zu HT_ 28 45 ?_
               refine zu HT_ 29 46 ?_
               refine zu HT_ 30 47 ?_
               refine zu HT_ 31 48 ?_
               refine zu HT_ 32 49 ?_
               refine zp HT_ 33 50 ?_
               refine zp HT_ 34 51 ?_
               refine zo HT_ ?_
               try go_wp2
               go_roundg k1
               case measure => have := HK1.out; omega
               case rel => exact ⟨(wrap64 (x5_1 + 1)), (by first | rfl | (simp; done) | (simp [*]; done)), H', ⟨by have := HK1.out; omega⟩, ⟨zB⟩⟩
         · replace c8 := Bool.eq_false_iff.mpr c8
           subst c8
           have H1 : (some false) = some r := by rw [if_neg (show ¬ (false = true) by decide)] at H; exact H
           clear H
           have H := H1
           clear H1
           obtain rfl := Option.some.inj H
           have p181 : 0 ≤ (x5_1 : Int) := of_decide_eq_true zA
           have q181 : x5_1 < (l0.length : Int) := of_decide_eq_true zA
           obtain ⟨ad181, e181, hx181_0, hx181_1⟩ := at_T64 HR0.out x5_1 p181 q181
           cases e181
           (try replace hx181_0 := (HB.out.cell (World.block_lt_of_cell? w _ hx181_0)).trans hx181_0)
           (try replace hx181_1 := (HB.out.cell (World.block_lt_of_cell? w _ hx181_1)).trans hx181_1)
           replace p181 := eq_true p181
           replace q181 := eq_true q181
           try go_wp2_with (first | ((with_reducible refine gate_dst (N := 6) rfl ?_); refine zb (w := w) 6 #[.int .i64 0, .int .i64 0] 64 zB ?_; clear HB; intro gb182 w34 HB BK182 GW182; have GE182 := GW182; have hcz35_0 := zy BK182 0; have hcz35_1 := zy BK182 1; have hfz35_0 := blk_frozen BK182.out 0; have hfz35_1 := blk_frozen BK182.out 1))
           have n0_ : Aside0 (((w34.setCell ⟨gb182, 0, none⟩ (.int .i64 ((rd_T64 l0 x5_1).f0))).setCell ⟨gb182, 1, none⟩ (.int .i64 ((rd_T64 l0 x5_1).f1))).heap[gb182]? = some (.cells #[.int .i64 ((rd_T64 l0 x5_1).f0), .int .i64 ((rd_T64 l0 x5_1).f1)] 64 (0, 0))) := ⟨by (with_reducible repeat (first | refine blk_drewN ?_ _ | refine blk_drew ?_ | refine blk_alloc ?_ _)); refine blk_put (cs := #[.int .i64 ((rd_T64 l0 x5_1).f0), .int .i64 0]) ?_ 1 _ rfl; (with_reducible repeat (first | refine blk_drewN ?_ _ | refine blk_drew ?_ | refine blk_alloc ?_ _)); refine blk_put (cs := #[.int .i64 0, .int .i64 0]) ?_ 0 _ rfl; (with_reducible repeat (first | refine blk_drewN ?_ _ | refine blk_drew ?_ | refine blk_alloc ?_ _)); exact BK182.out⟩
           have n1_ : Aside0 (Below w.heap.size w ((w34.setCell ⟨gb182, 0, none⟩ (.int .i64 ((rd_T64 l0 x5_1).f0))).setCell ⟨gb182, 1, none⟩ (.int .i64 ((rd_T64 l0 x5_1).f1)))) := ⟨zB⟩
           (try clear BK182)
           (try clear HB)
           generalize ((w34.setCell ⟨gb182, 0, none⟩ (.int .i64 ((rd_T64 l0 x5_1).f0))).setCell ⟨gb182, 1, none⟩ (.int .i64 ((rd_T64 l0 x5_1).f1))) = w36 at n0_ n1_ ⊢
           have BK182 := n0_
           have HB := n1_
           clear n0_ n1_
           replace BK182 := zM (blk_drew BK182.out)
           replace HB := zM (below_drew1 HB.out)
           refine zs (n := 35) (fun w' => w'.cell? ⟨gb182, 0, none⟩ = some (.int .i64 ((rd_T64 l0 x5_1).f0)) ∧ w'.cell? ⟨gb182, 1, none⟩ = some (.int .i64 ((rd_T64 l0 x5_1).f1))) ⟨(blk_cell BK182.out 0).trans rfl, (blk_cell BK182.out 1).trans rfl⟩ (fun hHeld => ?_); refine with_tabW spec_l2Pairs.tab5 spec_l2Pairs.bits5 (fun HT_ HW_ => ?_)
           generalize w36.drew = w37 at BK182 HB hHeld ⊢
           refine zp HT_ 0 17 ?_
           refine zp HT_ 2 19 ?_
           refine zp HT_ 3 20 ?_
           refine zt HT_ HW_ 1 18 hHeld ?_ (hy := by rintro w' ⟨s0, s1⟩; go_simp; with_reducible rfl)
           refine zg HT_ 4 21 Try.func136 #[.int .i64 ((rd_T64 l0 x5_1).f0), .int .i64 0, .int .i64 (wrap64 (a1 - 1))] (fun K hK => ?_)
           with_reducible refine (spec_l1In.calls ((rd_T64 l0 x5_1).f0) 0 (wrap64 (a1 - 1)) true _ A5.out).mono ?_
           rintro e w' ⟨rfl, ⟨nd, rfl⟩⟩
           refine ⟨_, rfl, ?_⟩
           refine hK.out _ _ ⟨(blk_cell BK182.out 0).trans rfl, (blk_cell BK182.out 1).trans rfl⟩ (fun hHeld => ?_)
           clear hK K
           refine zn 21 ?_
           refine zp HT_ 5 22 ?_
           refine zp HT_ 6 23 ?_
           refine zp HT_ 7 24 ?_
           refine zp HT_ 9 26 ?_
           refine zp HT_ 10 27 ?_
           refine zt HT_ HW_ 8 25 hHeld ?_ (hy := by rintro w' ⟨s0, s1⟩; go_simp; with_reducible rfl)
           refine zg HT_ 11 28 Try.func136 #[.int .i64 ((rd_T64 l0 x5_1).f1), .int .i64 0, .int .i64 (wrap64 (a1 - 1))] (fun K hK => ?_)
           with_reducible refine (spec_l1In.calls ((rd_T64 l0 x5_1).f1) 0 (wrap64 (a1 - 1)) false _ A7.out).mono ?_
           rintro e w' ⟨rfl, ⟨nd, rfl⟩⟩
           refine ⟨_, rfl, ?_⟩
           refine hK.out _ _ ⟨(blk_cell BK182.out 0).trans rfl, (blk_cell BK182.out 1).trans rfl⟩ (fun hHeld => ?_)
           clear hK K
           refine zn 28 ?_
           refine zp HT_ 12 29 ?_
           refine zp HT_ 13 30 ?_
           refine zp HT_ 14 31 ?_
           refine zu HT_ 15 32 ?_
           refine zu HT_ 16 33 ?_
           refine zu HT_ 17 34 ?_
           refine zu HT_ 18 35 ?_
           refine zu HT_ 19 36 ?_
           refine zp HT_ 20 37 ?_
           refine zp HT_ 21 38 ?_
           refine zu HT_ 22 39 ?_
           refine zu HT_ 23 40 ?_
           refine zu HT_ 24 41 ?_
           refine zu HT_ 25 42 ?_
           refine zu HT_ 26 43 ?_
           refine zu HT_ 27 44 ?_
           refine zu HT_ 28 45 ?_
           refine zu HT_ 29 46 ?_
           refine zu HT_ 30 47 ?_
           refine zu HT_ 31 48 ?_
           refine zu HT_ 32 49 ?_
           refine zu HT_ 33 50 ?_
           refine zp HT_ 34 51 ?_
           refine zo HT_ ?_
           try go_wp2
           go_ret
           exact ⟨by first | rfl | (simp [errW_none, errW_some] <;> rfl) | (simp [*, errW_none, errW_some] <;> rfl), zB⟩
       · replace c6 := Bool.eq_false_iff.mpr c6
         subst c6
         have H1 : (some false) = some r := by rw [if_neg (show ¬ (false = true) by decide)] at H; exact H
         clear H
         have H := H1
         clear H1
         obtain rfl := Option.some.inj H
         have p181 : 0 ≤ (x5_1 : Int) := of_decide_eq_true zA
         have q181 : x5_1 < (l0.length : Int) := of_decide_eq_true zA
         obtain ⟨ad181, e181, hx181_0, hx181_1⟩ := at_T64 HR0.out x5_1 p181 q181
         cases e181
         (try replace hx181_0 := (HB.out.cell (World.block_lt_of_cell? w _ hx181_0)).trans hx181_0)
         (try replace hx181_1 := (HB.out.cell (World.block_lt_of_cell? w _ hx181_1)).trans hx181_1)
         replace p181 := eq_true p181
         replace q181 := eq_true q181
         try go_wp2_with (first | ((with_reducible refine gate_dst (N := 6) rfl ?_); refine zb (w := w) 6 #[.int .i64 0, .int .i64 0] 64 zB ?_; clear HB; intro gb182 w38 HB BK182 GW182; have GE182 := GW182; have hcz39_0 := zy BK182 0; have hcz39_1 := zy BK182 1; have hfz39_0 := blk_frozen BK182.out 0; have hfz39_1 := blk_frozen BK182.out 1))
         have n0_ : Aside0 (((w38.setCell ⟨gb182, 0, none⟩ (.int .i64 ((rd_T64 l0 x5_1).f0))).setCell ⟨gb182, 1, none⟩ (.int .i64 ((rd_T64 l0 x5_1).f1))).heap[gb182]? = some (.cells #[.int .i64 ((rd_T64 l0 x5_1).f0), .int .i64 ((rd_T64 l0 x5_1).f1)] 64 (0, 0))) := ⟨by (with_reducible repeat (first | refine blk_drewN ?_ _ | refine blk_drew ?_ | refine blk_alloc ?_ _)); refine blk_put (cs := #[.int .i64 ((rd_T64 l0 x5_1).f0), .int .i64 0]) ?_ 1 _ rfl; (with_reducible repeat (first | refine blk_drewN ?_ _ | refine blk_drew ?_ | refine blk_alloc ?_ _)); refine blk_put (cs := #[.int .i64 0, .int .i64 0]) ?_ 0 _ rfl; (with_reducible repeat (first | refine blk_drewN ?_ _ | refine blk_drew ?_ | refine blk_alloc ?_ _)); exact BK182.out⟩
         have n1_ : Aside0 (Below w.heap.size w ((w38.setCell ⟨gb182, 0, none⟩ (.int .i64 ((rd_T64 l0 x5_1).f0))).setCell ⟨gb182, 1, none⟩ (.int .i64 ((rd_T64 l0 x5_1).f1)))) := ⟨zB⟩
         (try clear BK182)
         (try clear HB)
         generalize ((w38.setCell ⟨gb182, 0, none⟩ (.int .i64 ((rd_T64 l0 x5_1).f0))).setCell ⟨gb182, 1, none⟩ (.int .i64 ((rd_T64 l0 x5_1).f1))) = w40 at n0_ n1_ ⊢
         have BK182 := n0_
         have HB := n1_
         clear n0_ n1_
         replace BK182 := zM (blk_drew BK182.out)
         replace HB := zM (below_drew1 HB.out)
         refine zs (n := 35) (fun w' => w'.cell? ⟨gb182, 0, none⟩ = some (.int .i64 ((rd_T64 l0 x5_1).f0)) ∧ w'.cell? ⟨gb182, 1, none⟩ = some (.int .i64 ((rd_T64 l0 x5_1).f1))) ⟨(blk_cell BK182.out 0).trans rfl, (blk_cell BK182.out 1).trans rfl⟩ (fun hHeld => ?_); refine with_tabW spec_l2Pairs.tab5 spec_l2Pairs.bits5 (fun HT_ HW_ => ?_)
         generalize w40.drew = w41 at BK182 HB hHeld ⊢
         refine zp HT_ 0 17 ?_
         refine zp HT_ 2 19 ?_
         refine zp HT_ 3 20 ?_
         refine zt HT_ HW_ 1 18 hHeld ?_ (hy := by rintro w' ⟨s0, s1⟩; go_simp; with_reducible rfl)
         refine zg HT_ 4 21 Try.func136 #[.int .i64 ((rd_T64 l0 x5_1).f0), .int .i64 0, .int .i64 (wrap64 (a1 - 1))] (fun K hK => ?_)
         with_reducible refine (spec_l1In.calls ((rd_T64 l0 x5_1).f0) 0 (wrap64 (a1 - 1)) false _ A5.out).mono ?_
         rintro e w' ⟨rfl, ⟨nd, rfl⟩⟩
         refine ⟨_, rfl, ?_⟩
         refine hK.out _ _ ⟨(blk_cell BK182.out 0).trans rfl, (blk_cell BK182.out 1).trans rfl⟩ (fun hHeld => ?_)
         clear hK K
         refine zn 21 ?_
         refine zp HT_ 5 22 ?_
         refine zp HT_ 6 23 ?_
         refine zu HT_ 7 24 ?_
         refine zu HT_ 8 25 ?_
         refine zu HT_ 9 26 ?_
         refine zu HT_ 10 27 ?_
         refine zu HT_ 11 28 ?_
         refine zu HT_ 12 29 ?_
         refine zp HT_ 13 30 ?_
         refine zp HT_ 14 31 ?_
         refine zu HT_ 15 32 ?_
         refine zu HT_ 16 33 ?_
         refine zu HT_ 17 34 ?_
         refine zu HT_ 18 35 ?_
         refine zu HT_ 19 36 ?_
         refine zp HT_ 20 37 ?_
         refine zp HT_ 21 38 ?_
         refine zu HT_ 22 39 ?_
         refine zu HT_ 23 40 ?_
         refine zu HT_ 24 41 ?_
         refine zu HT_ 25 42 ?_
         refine zu HT_ 26 43 ?_
         refine zu HT_ 27 44 ?_
         refine zu HT_ 28 45 ?_
         refine zu HT_ 29 46 ?_
         refine zu HT_ 30 47 ?_
         refine zu HT_ 31 48 ?_
         refine zu HT_ 32 49 ?_
         refine zu HT_ 33 50 ?_
         refine zp HT_ 34 51 ?_
         refine zo HT_ ?_
         try go_wp2
         go_ret
         exact ⟨by first | rfl | (simp [errW_none, errW_some] <;> rfl) | (simp [*, errW_none, errW_some] <;> rfl), zB⟩
     · rw [if_neg c4] at H
       exact absurd H (by simp)
   · rw [if_neg c3] at H
     have c3b0 : decide (x5_1 < (l0.length : Int)) = false := decide_eq_false c3
     clear c3
     obtain rfl := Option.some.inj H
     go_wp2
     go_ret
     exact ⟨by first | rfl | (simp [errW_none, errW_some] <;> rfl) | (simp [*, errW_none, errW_some] <;> rfl), zB⟩

end Go.Proofs.Ythnojbafclglpaa.P
