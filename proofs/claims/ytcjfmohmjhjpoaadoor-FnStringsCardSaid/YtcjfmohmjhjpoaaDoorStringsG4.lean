/- What the rows' lists give: the table of powers of ten; FormatInt by Itoa's contract. -/
import Derived.Test.YtcjfmohmjhjpoaaDoorStringsG3
import Derived.Test.YtcjfmohmjhjpoaaDoorRows
import Derived.Lib.LaidTab
import Derived.Lib.AppendIntMem
import Derived.Below
import Derived.Test.YtcjfmohmjhjpoaaDoorCards
import Derived.Test.YtcjfmohmjhjpoaaDoorTie
import Derived.WalkKit
import Derived.ProofKit
import Derived.OpenShut
import Derived.ShutString
import Derived.ChangeOld
import Derived.SizedLaws
import Derived.Deep.DeepHandedRow
import Derived.Lib.IndexMore
import Derived.Lib.IndexBytes
import Derived.Laws.Strings
import Derived.Lib.AtoiAllCases
namespace Go.Proofs.YtcjfmohmjhjpoaaDoor.P
open Go.RowKit Go.Proofs.YtcjfmohmjhjpoaaDoorW.PrintWords Go.Proofs.YtcjfmohmjhjpoaaDoorW.PrintLast Go.Proofs.YtcjfmohmjhjpoaaDoorW.PrintMore
theorem laidMet_tail {P : Program} {x : String × DataW Unit} {l : List (String × DataW Unit)} {w : World} (h : laidMet P (x :: l) w) : laidMet P l w := by
  obtain ⟨ps, ⟨g, t, cs, fuel, p, q, _, _, _, _, h2, rfl⟩, hn, h3⟩ := h
  exact ⟨q, h2, (List.nodup_append.1 hn).2.1, fun b off hb => h3 b off (List.mem_append_right _ hb)⟩
theorem gPow : Tryd.prog.globalNamed "internal/strconv.uint64pow10" = some 3 := by kernel_rfl
theorem gPowType : (Tryd.prog.globals[3]?).map (·.type) = some 105 := by kernel_rfl
theorem cellsPow : Tryd.prog.cellsOf 105 = 20 := by kernel_rfl
theorem cellsU64 : Tryd.prog.cellsOf 55 = 1 := by kernel_rfl
/-- The table of powers of ten is there. -/
abbrev Pow (W : World) : Prop := Lib.TabIs Tryd.prog W "internal/strconv.uint64pow10" .u64 Lib.pow10Tab
theorem pow_of_laid {W : World} {rest : List (String × DataW Unit)} (h : laidMet Tryd.prog (("math/bits.deBruijn32tab", Rows.laid_math_bits_deBruijn32tab) :: ("math/bits.deBruijn64tab", Rows.laid_math_bits_deBruijn64tab) :: ("internal/strconv.uint64pow10", Rows.laid_internal_strconv_uint64pow10) :: rest) W) : Pow W :=
  Lib.tabIs_of_head (rest := rest) gPow gPowType Tryd.underlying105 Tryd.underlying55 cellsU64 cellsPow (laidMet_tail (laidMet_tail h))
theorem pow_below {w w' : World} (h : Pow w) (hb : Below w.heap.size w w') : Pow w' := (Lib.tabBelow_of_tabIs h) w' hb
theorem itoa_calls (n : Int) (h0 : -9223372036854775808 ≤ n) (h1 : n ≤ 9223372036854775807) (w : World) (hp : Pow w) :
    Calls Tryd.prog 37 #[.int .i64 n] w fun e w' => e = .returned (.string (str (Lib.itoa n))) ∧ Below w.heap.size w w' :=
  (Tryd.strconv_Itoa n h0 h1 w hp).mono fun e w' h => ⟨h.1, by obtain ⟨_, k, os, rfl⟩ := h; exact Lib.below_grow _ w (Nat.le_refl _) k os⟩
set_option maxRecDepth 100000 in
theorem impl_FormatInt_calls (a : Int) (w : World) (hp : Pow w) :
    Calls Tryd.prog 11 #[.int .i64 a] w fun e w' => e = .returned (.tuple #[.string (fmtR a).1, .bool (fmtR a).2]) ∧ Below w.heap.size w w' := by
  by_cases h : -999999 ≤ a ∧ a ≤ 999999
  · have hr : fmtR a = (str (Lib.itoa a), true) := if_pos h
    rw [hr]
    have c1 : decide (a < -999999) = false := decide_eq_false (by omega)
    have c2 : decide (a > 999999) = false := decide_eq_false (by omega)
    have c3 : decide (999999 < a) = false := decide_eq_false (by omega)
    have HB := zM (Below.refl w.heap.size w)
    go_enter Tryd.func11, Tryd.ntmps11
    go_wp2_with (go_at_call 37; refine (itoa_calls a (by omega) (by omega) _ (pow_below hp (by first | exact HB.out | exact below_drew HB.out))).mono ?_; rintro e w' ⟨rfl, hb⟩; replace HB := zM (below_step (by first | exact HB.out | exact below_drew HB.out) hb); clear hb)
    go_ret2
    exact ⟨by first | rfl | (simp; done), HB.out⟩
  · have hr : fmtR a = (⟨#[]⟩, false) := if_neg h
    rw [hr]
    have HB := zM (Below.refl w.heap.size w)
    by_cases h1 : a < -999999
    · have c1 : decide (a < -999999) = true := decide_eq_true h1
      go_enter Tryd.func11, Tryd.ntmps11
      go_wp2
      go_ret2
      exact ⟨by first | rfl | (simp; done), by first | exact HB.out | exact below_drew HB.out⟩
    · have c1 : decide (a < -999999) = false := decide_eq_false h1
      have c2 : decide (a > 999999) = true := decide_eq_true (by omega)
      have c3 : decide (999999 < a) = true := decide_eq_true (by omega)
      go_enter Tryd.func11, Tryd.ntmps11
      go_wp2
      go_ret2
      exact ⟨by first | rfl | (simp; done), by first | exact HB.out | exact below_drew HB.out⟩
end Go.Proofs.YtcjfmohmjhjpoaaDoor.P
namespace Go.Proofs.YtcjfmohmjhjpoaaDoor
open Go.ChangeShapes Go.WideShapes Go.ChangeAt Go.RowKit
open Go.ChangeMaps (open_string shut_string)
theorem own : ownKnob Tryd.prog.godebug = none := by kernel_rfl
/-- The cells of a table of numbers. -/
def tabCells (d : DataW Unit) : Array Value :=
  match d with
  | .agg l => (l.map fun | .lit (.int k n) => Value.int k n | _ => Value.bool false).toArray
  | _ => #[]
def lay (d : DataW Unit) : Obj → Obj
  | .cells _ t frozen => .cells (tabCells d) t frozen
  | o => o
end Go.Proofs.YtcjfmohmjhjpoaaDoor
namespace Go.Proofs.YtcjfmohmjhjpoaaDoor.P
open Go.RowKit Go.Proofs.YtcjfmohmjhjpoaaDoorW.PrintWords Go.Proofs.YtcjfmohmjhjpoaaDoorW.PrintLast Go.Proofs.YtcjfmohmjhjpoaaDoorW.PrintMore
attribute [local go_sem] max2_int min2_int max_two min_two max_three min_three max_four min_four   -- for this text's walks alone
set_option linter.unusedVariables false
set_option linter.unusedSimpArgs false

-- NOT PRINTED: function 71 (stringslite_Index)

-- NOT PRINTED: function 59 (strings_Index)

-- NOT PRINTED: function 83 (utf8_RuneCountInString)

-- NOT PRINTED: function 100 (utf8_decodeRuneInStringSlow)

-- NOT PRINTED: function 84 (utf8_DecodeRuneInString)

-- NOT PRINTED: function 69 (strings_explode)

-- NOT PRINTED: function 85 (bytealg_CountString)

-- NOT PRINTED: function 70 (strings_Count)

-- NOT PRINTED: function 57 (strings_genSplit)

-- NOT PRINTED: function 39 (strings_Split)

-- NOT PRINTED: function 13 (impl_SplitString)

/-! ### spec_l1Stands: function 41 -/
def spec_l1Stands.l0 : Nat → ByteArray → Int → Int → Option (Bool)
 | 0, _, _, _ => none
 | k + 1, x0, x1, x5 => if x5 < (x0.size : Int) then (if 0 ≤ x5 then (if (bt x0 x5) = x1 then (some true) else (spec_l1Stands.l0 k x0 x1 (wrap64 (x5 + 1)))) else (none)) else (some false)
def spec_l1Stands.f (k : Nat) (a0 : ByteArray) (a1 : Int) : Option (Bool) := spec_l1Stands.l0 k a0 a1 0
set_option maxHeartbeats 8000000 in
set_option maxRecDepth 100000 in
theorem spec_l1Stands.calls (k : Nat) (a0 : ByteArray) (a1 : Int) (r : Bool) (w : World) (h : spec_l1Stands.f k a0 a1 = some r) :
 Calls Tryd.prog 41 #[.string a0, .int .u8 a1] w fun e w' => e = .returned (.bool r) ∧ Drawn0 w w' := by
 have H : (spec_l1Stands.l0 k a0 a1 0) = some r := h
 clear h
 have H' := Aside0.mk H
 clear H
 go_enter Tryd.func41, Tryd.ntmps41
 go_wp2
 go_loopg [5] k (fun kq v5 w' => ∃ (x5_1 : Int), v5 = .int .i64 x5_1 ∧ Aside0 (spec_l1Stands.l0 kq a0 a1 x5_1 = some r) ∧ Aside0 (kq ≤ k) ∧ Drawn0 w w')
 case atStart => exact ⟨(0), (by first | rfl | (simp; done) | (simp [*]; done)), H', ⟨Nat.le_refl _⟩, by repeat (first | exact Drawn0.refl _ | apply Drawn0.step)⟩
 case round =>
  clear H'
  try clear p2
  obtain ⟨x5_1, rfl, HA, HK1, ⟨m1, rfl⟩⟩ := hrel
  cases gk with
  | zero => exact absurd HA.out (by simp [spec_l1Stands.l0])
  | succ k1 =>
   have H := HA.out
   clear HA
   simp only [spec_l1Stands.l0] at H
   by_cases c3 : x5_1 < (a0.size : Int)
   · rw [if_pos c3] at H
     have c3b0 := decide_eq_true c3
     clear c3
     by_cases c4 : 0 ≤ x5_1
     · rw [if_pos c4] at H
       have c4b0 := decide_eq_true c4
       clear c4
       by_cases c6 : (bt a0 x5_1) = a1
       · rw [if_pos c6] at H
         have c6b0 : ((bt a0 x5_1) == a1) = true := beq_iff_eq.mpr c6
         have c6b1 : ((bt a0 x5_1) != a1) = false := bne_eq_false_iff_eq.mpr c6
         clear c6
         obtain rfl := Option.some.inj H
         have p5 : 0 ≤ (x5_1 : Int) := of_decide_eq_true zA
         have q5 : x5_1 < (a0.size : Int) := of_decide_eq_true zA
         have hx5 := bt_at a0 x5_1
         replace p5 := eq_true p5
         replace q5 := eq_true q5
         go_wp2
         go_ret
         exact ⟨by first | rfl | (simp; done) | (simp [*]; done), by repeat (first | exact Drawn0.refl _ | apply Drawn0.step)⟩
       · rw [if_neg c6] at H
         have c6b0 : ((bt a0 x5_1) == a1) = false := beq_eq_false_iff_ne.mpr c6
         have c6b1 : ((bt a0 x5_1) != a1) = true := bne_iff_ne.mpr c6
         have H' := Aside0.mk H
         clear H
         have p5 : 0 ≤ (x5_1 : Int) := of_decide_eq_true zA
         have q5 : x5_1 < (a0.size : Int) := of_decide_eq_true zA
         have hx5 := bt_at a0 x5_1
         replace p5 := eq_true p5
         replace q5 := eq_true q5
         go_wp2
         go_roundg k1
         case measure => have := HK1.out; omega
         case rel => exact ⟨(wrap64 (x5_1 + 1)), (by first | rfl | (simp; done) | (simp [*]; done)), H', ⟨by have := HK1.out; omega⟩, by repeat (first | exact Drawn0.refl _ | apply Drawn0.step)⟩
     · rw [if_neg c4] at H
       exact absurd H (by simp)
   · rw [if_neg c3] at H
     have c3b0 : decide (x5_1 < (a0.size : Int)) = false := decide_eq_false c3
     clear c3
     obtain rfl := Option.some.inj H
     go_wp2
     go_ret
     exact ⟨by first | rfl | (simp; done) | (simp [*]; done), by repeat (first | exact Drawn0.refl _ | apply Drawn0.step)⟩

/-! ### spec_l1Sum: function 58 -/
def spec_l1Sum.l0 : Nat → ByteArray → Int → Int → Option (Int)
 | 0, _, _, _ => none
 | k + 1, x0, x3, x4 => if x4 < (x0.size : Int) then (if 0 ≤ x4 then (spec_l1Sum.l0 k x0 (Int.tmod (wrap64 ((wrap64 ((wrap64 (41 * x3)) + (wrap64 (bt x0 x4)))) + 1)) 999979) (wrap64 (x4 + 1))) else (none)) else (some x3)
def spec_l1Sum.f (k : Nat) (a0 : ByteArray) : Option (Int) := spec_l1Sum.l0 k a0 7 0
set_option maxHeartbeats 8000000 in
set_option maxRecDepth 100000 in
theorem spec_l1Sum.calls (k : Nat) (a0 : ByteArray) (r : Int) (w : World) (h : spec_l1Sum.f k a0 = some r) :
 Calls Tryd.prog 58 #[.string a0] w fun e w' => e = .returned (.int .i64 r) ∧ Drawn0 w w' := by
 have H : (spec_l1Sum.l0 k a0 7 0) = some r := h
 clear h
 have H' := Aside0.mk H
 clear H
 go_enter Tryd.func58, Tryd.ntmps58
 go_wp2
 go_loopg [3, 4] k (fun kq v3 v4 w' => ∃ (x3_1 : Int) (x4_1 : Int), v3 = .int .i64 x3_1 ∧ v4 = .int .i64 x4_1 ∧ Aside0 (spec_l1Sum.l0 kq a0 x3_1 x4_1 = some r) ∧ Aside0 (kq ≤ k) ∧ Drawn0 w w')
 case atStart => exact ⟨(7), (0), (by first | rfl | (simp; done) | (simp [*]; done)), (by first | rfl | (simp; done) | (simp [*]; done)), H', ⟨Nat.le_refl _⟩, by repeat (first | exact Drawn0.refl _ | apply Drawn0.step)⟩
 case round =>
  clear H'
  obtain ⟨x3_1, x4_1, rfl, rfl, HA, HK1, ⟨m1, rfl⟩⟩ := hrel
  cases gk with
  | zero => exact absurd HA.out (by simp [spec_l1Sum.l0])
  | succ k1 =>
   have H := HA.out
   clear HA
   simp only [spec_l1Sum.l0] at H
   by_cases c2 : x4_1 < (a0.size : Int)
   · rw [if_pos c2] at H
     have c2b0 := decide_eq_true c2
     clear c2
     by_cases c3 : 0 ≤ x4_1
     · rw [if_pos c3] at H
       have c3b0 := decide_eq_true c3
       clear c3
       have H' := Aside0.mk H
       clear H
       have p4 : 0 ≤ (x4_1 : Int) := of_decide_eq_true zA
       have q4 : x4_1 < (a0.size : Int) := of_decide_eq_true zA
       have hx4 := bt_at a0 x4_1
       replace p4 := eq_true p4
       replace q4 := eq_true q4
       go_wp2
       go_roundg k1
       case measure => have := HK1.out; omega
       case rel => exact ⟨(Int.tmod (wrap64 ((wrap64 ((wrap64 (41 * x3_1)) + (wrap64 (bt a0 x4_1)))) + 1)) 999979), (wrap64 (x4_1 + 1)), (by first | rfl | (simp; done) | (simp [*]; done)), (by first | rfl | (simp; done) | (simp [*]; done)), H', ⟨by have := HK1.out; omega⟩, by repeat (first | exact Drawn0.refl _ | apply Drawn0.step)⟩
     · rw [if_neg c3] at H
       exact absurd H (by simp)
   · rw [if_neg c2] at H
     have c2b0 : decide (x4_1 < (a0.size : Int)) = false := decide_eq_false c2
     clear c2
     obtain rfl := Option.some.inj H
     go_wp2
     go_ret
     exact ⟨by first | rfl | (simp; done) | (simp [*]; done), by repeat (first | exact Drawn0.refl _ | apply Drawn0.step)⟩

/-! ### spec_l1Seal: function 42 -/
def spec_l1Seal.f (k : Nat) (a0 : ByteArray) : Option (ByteArray) := if a0.size + 1 ≤ 9223372036854775807 then ((spec_l1Sum.f k a0).bind fun t159 => ((spec_l1Num.f k t159).bind fun t160 => (if (a0 ++ (⟨#[35]⟩ : ByteArray)).size + t160.size ≤ 9223372036854775807 then (some ((a0 ++ (⟨#[35]⟩ : ByteArray)) ++ t160)) else (none)))) else (none)
set_option maxHeartbeats 8000000 in
set_option maxRecDepth 100000 in
theorem spec_l1Seal.calls (k : Nat) (a0 : ByteArray) (r : ByteArray) (w : World) (h : spec_l1Seal.f k a0 = some r) :
 Calls Tryd.prog 42 #[.string a0] w fun e w' => e = .returned (.string r) ∧ Below w.heap.size w w' := by
 have HB := zM (Below.refl w.heap.size w)
 have H : (if a0.size + 1 ≤ 9223372036854775807 then ((spec_l1Sum.f k a0).bind fun t159 => ((spec_l1Num.f k t159).bind fun t160 => (if (a0 ++ (⟨#[35]⟩ : ByteArray)).size + t160.size ≤ 9223372036854775807 then (some ((a0 ++ (⟨#[35]⟩ : ByteArray)) ++ t160)) else (none)))) else (none)) = some r := h
 clear h
 by_cases c2 : a0.size + 1 ≤ 9223372036854775807
 · rw [if_pos c2] at H
   have c2b0 := eq_true c2
   have c2b1 : decide (a0.size + 1 ≤ 9223372036854775807) = true := decide_eq_true c2
   try have c2b2 : (9223372036854775807 < a0.size + 1) = False := eq_false (Nat.not_lt.2 c2)
   replace H := Option.bind_eq_some_iff.mp H
   obtain ⟨t159, A30, H⟩ := H
   have A3 := Aside0.mk A30
   clear A30
   replace H := Option.bind_eq_some_iff.mp H
   obtain ⟨t160, A40, H⟩ := H
   have A4 := Aside0.mk A40
   clear A40
   by_cases c5 : (a0 ++ (⟨#[35]⟩ : ByteArray)).size + t160.size ≤ 9223372036854775807
   · rw [if_pos c5] at H
     have c5b0 := eq_true c5
     have c5b1 : decide ((a0 ++ (⟨#[35]⟩ : ByteArray)).size + t160.size ≤ 9223372036854775807) = true := decide_eq_true c5
     try have c5b2 : (9223372036854775807 < (a0 ++ (⟨#[35]⟩ : ByteArray)).size + t160.size) = False := eq_false (Nat.not_lt.2 c5)
     have c5b9 : (9223372036854775807 < a0.size + 1 + t160.size) = False := eq_false (by have h_ := c5; simp only [ByteArray.size_append, show (⟨#[32]⟩ : ByteArray).size = 1 from rfl, show (⟨#[35]⟩ : ByteArray).size = 1 from rfl, show (⟨#[45]⟩ : ByteArray).size = 1 from rfl] at h_; omega)
     obtain rfl := Option.some.inj H
     go_enter Tryd.func42, Tryd.ntmps42
     go_wp2_with (first | ((with_reducible refine gate_callee (f := 58) rfl ?_); refine zc 6 Tryd.func58 #[.string a0] ?_; (with_reducible refine (spec_l1Sum.calls k a0 t159 _ A3.out).mono ?_); rintro e w' ⟨rfl, ⟨nd, rfl⟩⟩; refine ⟨_, rfl, ?_⟩) | ((with_reducible refine gate_callee (f := 36) rfl ?_); refine zc 7 Tryd.func36 #[.int .i64 t159] ?_; (with_reducible refine (spec_l1Num.calls k t159 t160 _ A4.out).mono ?_); rintro e w6 ⟨rfl, hb⟩; refine ⟨_, rfl, ?_⟩; replace HB := zM (below_step zB hb); (try clear hb); (try clear hb2); (try clear hk); (try clear hi)))
     go_ret
     exact ⟨by first | rfl | (simp [errW_none, errW_some] <;> rfl) | (simp [*, errW_none, errW_some] <;> rfl), zB⟩
   · rw [if_neg c5] at H
     exact absurd H (by simp)
 · rw [if_neg c2] at H
   exact absurd H (by simp)

end Go.Proofs.YtcjfmohmjhjpoaaDoor.P
namespace Go.Proofs.YtcjfmohmjhjpoaaDoor.P
open Go.RowKit Go.Proofs.YtcjfmohmjhjpoaaDoorW.PrintWords Go.Proofs.YtcjfmohmjhjpoaaDoorW.PrintLast Go.Proofs.YtcjfmohmjhjpoaaDoorW.PrintMore
attribute [local go_sem] max2_int min2_int max_two min_two max_three min_three max_four min_four   -- for this text's walks alone
set_option linter.unusedVariables false
set_option linter.unusedSimpArgs false

/-! ### spec_AppendChecksum: function 17 -/
def spec_AppendChecksum.f (k : Nat) (a0 : ByteArray) : Option (ByteArray × Bool) := if (a0.size : Int) > 4000 then (some ((⟨#[]⟩ : ByteArray), false)) else ((spec_l1Stands.f k a0 35).bind fun t161 => (if t161 = true then (some ((⟨#[]⟩ : ByteArray), false)) else ((spec_l1Seal.f k a0).bind fun t162 => (if (t162.size : Int) > 4000 then (some ((⟨#[]⟩ : ByteArray), false)) else ((spec_l1Seal.f k a0).bind fun t163 => (some (t163, true)))))))
set_option maxHeartbeats 8000000 in
set_option maxRecDepth 100000 in
theorem spec_AppendChecksum.calls (k : Nat) (a0 : ByteArray) (r1 : ByteArray) (r2 : Bool) (w : World) (h : spec_AppendChecksum.f k a0 = some (r1, r2)) :
 Calls Tryd.prog 17 #[.string a0] w fun e w' => e = .returned (.tuple #[.string r1, .bool r2]) ∧ Below w.heap.size w w' := by
 have HB := zM (Below.refl w.heap.size w)
 have H : (if (a0.size : Int) > 4000 then (some ((⟨#[]⟩ : ByteArray), false)) else ((spec_l1Stands.f k a0 35).bind fun t161 => (if t161 = true then (some ((⟨#[]⟩ : ByteArray), false)) else ((spec_l1Seal.f k a0).bind fun t162 => (if (t162.size : Int) > 4000 then (some ((⟨#[]⟩ : ByteArray), false)) else ((spec_l1Seal.f k a0).bind fun t163 => (some (t163, true)))))))) = some (r1, r2) := h
 clear h
 by_cases c2 : (a0.size : Int) > 4000
 · rw [if_pos c2] at H
   have c2b0 : decide (4000 < (a0.size : Int)) = true := decide_eq_true c2
   have c2b1 : decide (4000 < a0.size) = true := decide_eq_true (by omega)
   clear c2
   simp only [Option.some.injEq, Prod.mk.injEq] at H
   obtain ⟨rfl, rfl⟩ := H
   go_enter Tryd.func17, Tryd.ntmps17
   go_wp2
   go_ret2
   exact ⟨by first | rfl | (simp [errW_none, errW_some] <;> rfl) | (simp [*, errW_none, errW_some] <;> rfl), zB⟩
 · rw [if_neg c2] at H
   have c2b0 : decide (4000 < (a0.size : Int)) = false := decide_eq_false c2
   have c2b1 : decide (4000 < a0.size) = false := decide_eq_false (by omega)
   clear c2
   replace H := Option.bind_eq_some_iff.mp H
   obtain ⟨t161, A30, H⟩ := H
   replace H : (if t161 = true then (some ((⟨#[]⟩ : ByteArray), false)) else ((spec_l1Seal.f k a0).bind fun t162 => (if (t162.size : Int) > 4000 then (some ((⟨#[]⟩ : ByteArray), false)) else ((spec_l1Seal.f k a0).bind fun t163 => (some (t163, true)))))) = some (r1, r2) := H
   have A3 := Aside0.mk A30
   clear A30
   by_cases c4 : t161 = true
   · subst c4
     have H1 : (some ((⟨#[]⟩ : ByteArray), false)) = some (r1, r2) := by rw [if_pos rfl] at H; exact H
     clear H
     have H := H1
     clear H1
     simp only [Option.some.injEq, Prod.mk.injEq] at H
     obtain ⟨rfl, rfl⟩ := H
     go_enter Tryd.func17, Tryd.ntmps17
     go_wp2_with (first | (go_at_call 41; (with_reducible refine (spec_l1Stands.calls k a0 35 true _ A3.out).mono ?_); rintro e w' ⟨rfl, ⟨nd, rfl⟩⟩))
     go_ret2
     exact ⟨by first | rfl | (simp [errW_none, errW_some] <;> rfl) | (simp [*, errW_none, errW_some] <;> rfl), zB⟩
   · replace c4 := Bool.eq_false_iff.mpr c4
     subst c4
     have H1 : ((spec_l1Seal.f k a0).bind fun t162 => (if (t162.size : Int) > 4000 then (some ((⟨#[]⟩ : ByteArray), false)) else ((spec_l1Seal.f k a0).bind fun t163 => (some (t163, true))))) = some (r1, r2) := by rw [if_neg (show ¬ (false = true) by decide)] at H; exact H
     clear H
     have H := H1
     clear H1
     replace H := Option.bind_eq_some_iff.mp H
     obtain ⟨t162, A50, H⟩ := H
     replace H : (if (t162.size : Int) > 4000 then (some ((⟨#[]⟩ : ByteArray), false)) else ((spec_l1Seal.f k a0).bind fun t163 => (some (t163, true)))) = some (r1, r2) := H
     have A5 := Aside0.mk A50
     clear A50
     by_cases c6 : (t162.size : Int) > 4000
     · rw [if_pos c6] at H
       have c6b0 : decide (4000 < (t162.size : Int)) = true := decide_eq_true c6
       have c6b1 : decide (4000 < t162.size) = true := decide_eq_true (by omega)
       clear c6
       simp only [Option.some.injEq, Prod.mk.injEq] at H
       obtain ⟨rfl, rfl⟩ := H
       go_enter Tryd.func17, Tryd.ntmps17
       go_wp2_with (first | (go_at_call 41; (with_reducible refine (spec_l1Stands.calls k a0 35 false _ A3.out).mono ?_); rintro e w' ⟨rfl, ⟨nd, rfl⟩⟩) | (go_at_call 42; (with_reducible refine (spec_l1Seal.calls k a0 t162 _ A5.out).mono ?_); rintro e w7 ⟨rfl, hb⟩; replace HB := zM (below_step zB hb); (try clear hb); (try clear hb2); (try clear hk); (try clear hi)))
       go_ret2
       exact ⟨by first | rfl | (simp [errW_none, errW_some] <;> rfl) | (simp [*, errW_none, errW_some] <;> rfl), zB⟩
     · rw [if_neg c6] at H
       have c6b0 : decide (4000 < (t162.size : Int)) = false := decide_eq_false c6
       have c6b1 : decide (4000 < t162.size) = false := decide_eq_false (by omega)
       clear c6
       replace H := Option.bind_eq_some_iff.mp H
       obtain ⟨t163, A80, H⟩ := H
       replace H : (some (t163, true)) = some (r1, r2) := H
       have A8 := Aside0.mk A80
       clear A80
       simp only [Option.some.injEq, Prod.mk.injEq] at H
       obtain ⟨rfl, rfl⟩ := H
       go_enter Tryd.func17, Tryd.ntmps17
       go_wp2_with (first | (go_at_call 41; (with_reducible refine (spec_l1Stands.calls k a0 35 false _ A3.out).mono ?_); rintro e w' ⟨rfl, ⟨nd, rfl⟩⟩) | (go_at_call 42; (with_reducible refine (spec_l1Seal.calls k a0 t162 _ A5.out).mono ?_); rintro e w9 ⟨rfl, hb⟩; replace HB := zM (below_step zB hb); (try clear hb); (try clear hb2); (try clear hk); (try clear hi)) | ((with_reducible refine gate_callee (f := 42) rfl ?_); refine zc 18 Tryd.func42 #[.string a0] ?_; (with_reducible refine (spec_l1Seal.calls k a0 t163 _ A8.out).mono ?_); rintro e w10 ⟨rfl, hb⟩; refine ⟨_, rfl, ?_⟩; replace HB := zM (below_step zB hb); (try clear hb); (try clear hb2); (try clear hk); (try clear hi)))
       go_ret2
       exact ⟨by first | rfl | (simp [errW_none, errW_some] <;> rfl) | (simp [*, errW_none, errW_some] <;> rfl), zB⟩

-- NOT PRINTED: function 43 (strings_Contains)

/-! ### impl_checksum: function 44 -/
def impl_checksum.l0 : Nat → ByteArray → Int → Int → Int → Option (Int)
 | 0, _, _, _, _ => none
 | k + 1, x0, x3, x6, x7 => if x7 < x6 then (if 0 ≤ x7 then (if x7 < (x0.size : Int) then (impl_checksum.l0 k x0 (Int.tmod (wrap64 ((wrap64 ((wrap64 (41 * x3)) + (wrap64 (bt x0 x7)))) + 1)) 999979) x6 (wrap64 (x7 + 1))) else (none)) else (none)) else (some x3)
def impl_checksum.f (k : Nat) (a0 : ByteArray) : Option (Int) := impl_checksum.l0 k a0 7 (a0.size : Int) 0
set_option maxHeartbeats 8000000 in
set_option maxRecDepth 100000 in
theorem impl_checksum.calls (k : Nat) (a0 : ByteArray) (r : Int) (w : World) (h : impl_checksum.f k a0 = some r) :
 Calls Tryd.prog 44 #[.string a0] w fun e w' => e = .returned (.int .i64 r) ∧ Drawn0 w w' := by
 have H : (impl_checksum.l0 k a0 7 (a0.size : Int) 0) = some r := h
 clear h
 have H' := Aside0.mk H
 clear H
 go_enter Tryd.func44, Tryd.ntmps44
 go_wp2
 go_loopg [3, 7] k (fun kq v3 v7 w' => ∃ (x3_1 : Int) (x7_1 : Int), v3 = .int .i64 x3_1 ∧ v7 = .int .i64 x7_1 ∧ Aside0 (impl_checksum.l0 kq a0 x3_1 (a0.size : Int) x7_1 = some r) ∧ Aside0 (kq ≤ k) ∧ Drawn0 w w')
 case atStart => exact ⟨(7), (0), (by first | rfl | (simp; done) | (simp [*]; done)), (by first | rfl | (simp; done) | (simp [*]; done)), H', ⟨Nat.le_refl _⟩, by repeat (first | exact Drawn0.refl _ | apply Drawn0.step)⟩
 case round =>
  clear H'
  obtain ⟨x3_1, x7_1, rfl, rfl, HA, HK1, ⟨m1, rfl⟩⟩ := hrel
  cases gk with
  | zero => exact absurd HA.out (by simp [impl_checksum.l0])
  | succ k1 =>
   have H := HA.out
   clear HA
   simp only [impl_checksum.l0] at H
   by_cases c2 : x7_1 < (a0.size : Int)
   · rw [if_pos c2] at H
     have c2b0 := decide_eq_true c2
     clear c2
     by_cases c3 : 0 ≤ x7_1
     · rw [if_pos c3] at H
       have c3b0 := decide_eq_true c3
       clear c3
       by_cases c4 : x7_1 < (a0.size : Int)
       · rw [if_pos c4] at H
         have c4b0 := decide_eq_true c4
         clear c4
         have H' := Aside0.mk H
         clear H
         have p5 : 0 ≤ (x7_1 : Int) := of_decide_eq_true zA
         have q5 : x7_1 < (a0.size : Int) := of_decide_eq_true zA
         have hx5 := bt_at a0 x7_1
         replace p5 := eq_true p5
         replace q5 := eq_true q5
         go_wp2
         go_roundg k1
         case measure => have := HK1.out; omega
         case rel => exact ⟨(Int.tmod (wrap64 ((wrap64 ((wrap64 (41 * x3_1)) + (wrap64 (bt a0 x7_1)))) + 1)) 999979), (wrap64 (x7_1 + 1)), (by first | rfl | (simp; done) | (simp [*]; done)), (by first | rfl | (simp; done) | (simp [*]; done)), H', ⟨by have := HK1.out; omega⟩, by repeat (first | exact Drawn0.refl _ | apply Drawn0.step)⟩
       · rw [if_neg c4] at H
         exact absurd H (by simp)
     · rw [if_neg c3] at H
       exact absurd H (by simp)
   · rw [if_neg c2] at H
     have c2b0 : decide (x7_1 < (a0.size : Int)) = false := decide_eq_false c2
     clear c2
     obtain rfl := Option.some.inj H
     go_wp2
     go_ret
     exact ⟨by first | rfl | (simp; done) | (simp [*]; done), by repeat (first | exact Drawn0.refl _ | apply Drawn0.step)⟩

-- NOT PRINTED: function 18 (impl_AppendChecksum)

-- NOT PRINTED: function 5 (laws_FnExactAppendChecksum)

/-! ### spec_l1Read: function 53 -/
mutual
def spec_l1Read.j0 : Nat → ByteArray → ByteArray → Bool → Option (Int × Bool)
 | 0, _, _, _ => none
 | k + 1, x0, x4, x15 => if x15 = true then (if 1 ≤ (x4.size : Int) then (spec_l1Read.j1 k x0 (x4.extract 1 x4.size)) else (none)) else (spec_l1Read.j1 k x0 x4)
def spec_l1Read.j1 : Nat → ByteArray → ByteArray → Option (Int × Bool)
 | 0, _, _ => none
 | k + 1, x0, x4 => (spec_l1In.f (x4.size : Int) 1 6).bind fun t173 => (if t173 = true then (spec_l1Read.l0 k x0 x4 0 0) else (some (0, false)))
def spec_l1Read.l0 : Nat → ByteArray → ByteArray → Int → Int → Option (Int × Bool)
 | 0, _, _, _, _ => none
 | k + 1, x0, x4, x5, x6 => if x6 < (x4.size : Int) then (if 0 ≤ x6 then (if (bt x4 x6) < 48 then (some (0, false)) else (if (bt x4 x6) > 57 then (some (0, false)) else (spec_l1Read.l0 k x0 x4 (wrap64 ((wrap64 (10 * x5)) + (((bt x4 x6) - 48) % 256))) (wrap64 (x6 + 1))))) else (none)) else (if (x4.size : Int) < (x0.size : Int) then ((spec_l1Num.f k (wrap64 (-x5))).bind fun t174 => (if t174.toList = x0.toList then (some (wrap64 (-x5), true)) else (some (0, false)))) else ((spec_l1Num.f k x5).bind fun t175 => (if t175.toList = x0.toList then (some (x5, true)) else (some (0, false)))))
end
def spec_l1Read.f (k : Nat) (a0 : ByteArray) : Option (Int × Bool) := if (a0.size : Int) > 1 then (if 0 < (a0.size : Int) then (spec_l1Read.j0 k a0 a0 ((bt a0 0) == 45)) else (none)) else (spec_l1Read.j0 k a0 a0 false)
set_option maxHeartbeats 8000000 in
set_option maxRecDepth 100000 in
theorem spec_l1Read.calls (k : Nat) (a0 : ByteArray) (r1 : Int) (r2 : Bool) (w : World) (h : spec_l1Read.f k a0 = some (r1, r2)) :
 Calls Tryd.prog 53 #[.string a0] w fun e w' => e = .returned (.tuple #[.int .i64 r1, .bool r2]) ∧ Below w.heap.size w w' := by
 have HB := zM (Below.refl w.heap.size w)
 have H : (if (a0.size : Int) > 1 then (if 0 < (a0.size : Int) then (spec_l1Read.j0 k a0 a0 ((bt a0 0) == 45)) else (none)) else (spec_l1Read.j0 k a0 a0 false)) = some (r1, r2) := h
 clear h
 have HC2 := Aside0.mk H
 clear H
 go_enter Tryd.func53, Tryd.ntmps53
 go_upto_region 2 with (fail)
 go_cut [15] (fun v15 wc => ∃ (kq : Nat) (x15_1 : Bool), v15 = .bool x15_1 ∧ Aside0 (spec_l1Read.j0 kq a0 a0 x15_1 = some (r1, r2)) ∧ Aside0 (kq ≤ k) ∧ Aside0 (Below w.heap.size w wc))
 case first =>
  have H := HC2.out
  clear HC2
  by_cases c3 : (a0.size : Int) > 1
  · rw [if_pos c3] at H
    have c3b0 : decide (1 < (a0.size : Int)) = true := decide_eq_true c3
    have c3b1 : decide (1 < a0.size) = true := decide_eq_true (by omega)
    clear c3
    (first | rw [c3b0] | (simp only [i64_w, i32_w]; rw [c3b0]) | skip)
    by_cases c4 : 0 < (a0.size : Int)
    · rw [if_pos c4] at H
      have c4b0 := decide_eq_true c4
      have c4b1 : decide (0 < a0.size) = true := decide_eq_true (by omega)
      clear c4
      have H' := Aside0.mk H
      clear H
      have p5 : 0 ≤ (0 : Int) := (by omega)
      have q5 : 0 < a0.size := (by have : (0 : Int) < (a0.size : Int) := of_decide_eq_true zA; omega)
      have hx5 : ∀ h : 0 < a0.size, ((a0[0]'h).toNat : Int) = bt a0 0 := bt_at a0 0
      clear p5
      have qi5 : (0 < (a0.size : Int)) = True := eq_true (of_decide_eq_true zA)
      replace q5 := eq_true q5
      go_wp2
      go_meet
      case rel => exact ⟨_, (((bt a0 0) == 45)), (by first | rfl | (simp; done) | (simp [*]; done)), H', ⟨by first | omega | exact Nat.le_refl _⟩, ⟨zB⟩⟩
    · rw [if_neg c4] at H
      exact absurd H (by simp)
  · rw [if_neg c3] at H
    have c3b0 : decide (1 < (a0.size : Int)) = false := decide_eq_false c3
    have c3b1 : decide (1 < a0.size) = false := decide_eq_false (by omega)
    clear c3
    (first | rw [c3b0] | (simp only [i64_w, i32_w]; rw [c3b0]) | skip)
    have H' := Aside0.mk H
    clear H
    go_wp2
    go_meet
    case rel => exact ⟨_, (false), (by first | rfl | (simp; done) | (simp [*]; done)), H', ⟨by first | omega | exact Nat.le_refl _⟩, ⟨zB⟩⟩
 case rest =>
  clear HC2
  try clear p2
  try clear c3
  try clear c3b0
  try clear c3b1
  try clear c4
  try clear c4b0
  try clear c4b1
  try clear c5
  try clear p5
  try clear q5
  try clear hx5
  try clear qi5
  try clear p5
  try clear q5
  obtain ⟨kq, x15_1, rfl, HA, HJ1, HB⟩ := hcut
  cases kq with
  | zero => exact absurd HA.out (by simp [spec_l1Read.j0])
  | succ kj1 =>
   have H := HA.out
   clear HA
   simp only [spec_l1Read.j0] at H
   have HC6 := Aside0.mk H
   clear H
   go_upto_if 15 with (fail)
   go_cut [4] (fun v4 wc => ∃ (kq : Nat) (x4_5 : ByteArray), v4 = .string x4_5 ∧ Aside0 (spec_l1Read.j1 kq a0 x4_5 = some (r1, r2)) ∧ Aside0 (kq ≤ kj1) ∧ Aside0 (Below w.heap.size w wc))
   case first =>
    have H := HC6.out
    clear HC6
    by_cases c7 : x15_1 = true
    · subst c7
      have H1 : (if 1 ≤ (a0.size : Int) then (spec_l1Read.j1 kj1 a0 (a0.extract 1 a0.size)) else (none)) = some (r1, r2) := by rw [if_pos rfl] at H; exact H
      clear H
      have H := H1
      clear H1
      by_cases c8 : 1 ≤ (a0.size : Int)
      · rw [if_pos c8] at H
        have c8b0 := eq_true c8
        have c8b1 : decide (1 ≤ (a0.size : Int)) = true := decide_eq_true c8
        clear c8
        have H' := Aside0.mk H
        clear H
        go_wp2
        go_meet
        case rel => exact ⟨_, (a0.extract 1 a0.size), (by first | rfl | (simp; done) | (simp [*]; done)), H', ⟨by have := HJ1.out; first | omega | exact Nat.le_refl _⟩, ⟨zB⟩⟩
      · rw [if_neg c8] at H
        exact absurd H (by simp)
    · replace c7 := Bool.eq_false_iff.mpr c7
      subst c7
      have H1 : (spec_l1Read.j1 kj1 a0 a0) = some (r1, r2) := by rw [if_neg (show ¬ (false = true) by decide)] at H; exact H
      clear H
      have H := H1
      clear H1
      have H' := Aside0.mk H
      clear H
      go_wp2
      go_meet
      case rel => exact ⟨_, (a0), (by first | rfl | (simp; done) | (simp [*]; done)), H', ⟨by have := HJ1.out; first | omega | exact Nat.le_refl _⟩, ⟨zB⟩⟩
   case rest =>
    clear HC6
    try clear p2
    try clear c3
    try clear c3b0
    try clear c3b1
    try clear c4
    try clear c4b0
    try clear c4b1
    try clear c5
    try clear p5
    try clear q5
    try clear hx5
    try clear qi5
    try clear c7
    try clear c8
    try clear c8b0
    try clear c8b1
    try clear p2
    try clear p5
    try clear q5
    obtain ⟨kq, x4_5, rfl, HA, HJ5, HB⟩ := hcut
    cases kq with
    | zero => exact absurd HA.out (by simp [spec_l1Read.j1])
    | succ kj5 =>
     have H := HA.out
     clear HA
     simp only [spec_l1Read.j1] at H
     replace H := Option.bind_eq_some_iff.mp H
     obtain ⟨t173, A90, H⟩ := H
     replace H : (if t173 = true then (spec_l1Read.l0 kj5 a0 x4_5 0 0) else (some (0, false))) = some (r1, r2) := H
     have A9 := Aside0.mk A90
     clear A90
     by_cases c10 : t173 = true
     · subst c10
       have H1 : (spec_l1Read.l0 kj5 a0 x4_5 0 0) = some (r1, r2) := by rw [if_pos rfl] at H; exact H
       clear H
       have H := H1
       clear H1
       have H' := Aside0.mk H
       clear H
       go_wp2_with (first | ((with_reducible refine gate_callee (f := 35) rfl ?_); refine zc 20 Tryd.func35 #[.int .i64 (x4_5.size : Int), .int .i64 1, .int .i64 6] ?_; (with_reducible refine (spec_l1In.calls (x4_5.size : Int) 1 6 true _ A9.out).mono ?_); rintro e w' ⟨rfl, ⟨nd, rfl⟩⟩; refine ⟨_, rfl, ?_⟩))
       go_loopg [5, 6] kj5 (fun kq v5 v6 w' => ∃ (x5_3 : Int) (x6_3 : Int), v5 = .int .i64 x5_3 ∧ v6 = .int .i64 x6_3 ∧ Aside0 (spec_l1Read.l0 kq a0 x4_5 x5_3 x6_3 = some (r1, r2)) ∧ Aside0 (kq ≤ kj5) ∧ Aside0 (Below w.heap.size w w'))
       case atStart => exact ⟨(0), (0), (by first | rfl | (simp; done) | (simp [*]; done)), (by first | rfl | (simp; done) | (simp [*]; done)), H', ⟨Nat.le_refl _⟩, ⟨zB⟩⟩
       case round =>
        clear H'
        try clear c1
        try clear p2
        try clear c3
        try clear c3b0
        try clear c3b1
        try clear c4
        try clear c4b0
        try clear c4b1
        try clear c5
        try clear p5
        try clear q5
        try clear hx5
        try clear qi5
        try clear c7
        try clear c8
        try clear c8b0
        try clear c8b1
        try clear c10
        try clear p2
        try clear p5
        try clear q5
        obtain ⟨x5_3, x6_3, rfl, rfl, HA, HK3, HB⟩ := hrel
        cases gk with
        | zero => exact absurd HA.out (by simp [spec_l1Read.l0])
        | succ k3 =>
         have H := HA.out
         clear HA
         simp only [spec_l1Read.l0] at H
         by_cases c11 : x6_3 < (x4_5.size : Int)
         · rw [if_pos c11] at H
           have c11b0 := decide_eq_true c11
           clear c11
           by_cases c12 : 0 ≤ x6_3
           · rw [if_pos c12] at H
             have c12b0 := decide_eq_true c12
             clear c12
             by_cases c14 : (bt x4_5 x6_3) < 48
             · rw [if_pos c14] at H
               have c14b0 := decide_eq_true c14
               clear c14
               simp only [Option.some.injEq, Prod.mk.injEq] at H
               obtain ⟨rfl, rfl⟩ := H
               have p13 : 0 ≤ (x6_3 : Int) := of_decide_eq_true zA
               have q13 : x6_3 < (x4_5.size : Int) := of_decide_eq_true zA
               have hx13 := bt_at x4_5 x6_3
               replace p13 := eq_true p13
               replace q13 := eq_true q13
               go_wp2
               go_ret2
               exact ⟨by first | rfl | (simp [errW_none, errW_some] <;> rfl) | (simp [*, errW_none, errW_some] <;> rfl), zB⟩
             · rw [if_neg c14] at H
               have c14b0 : decide ((bt x4_5 x6_3) < 48) = false := decide_eq_false c14
               clear c14
               by_cases c16 : (bt x4_5 x6_3) > 57
               · rw [if_pos c16] at H
                 have c16b0 : decide (57 < (bt x4_5 x6_3)) = true := decide_eq_true c16
                 clear c16
                 simp only [Option.some.injEq, Prod.mk.injEq] at H
                 obtain ⟨rfl, rfl⟩ := H
                 have p13 : 0 ≤ (x6_3 : Int) := of_decide_eq_true zA
                 have q13 : x6_3 < (x4_5.size : Int) := of_decide_eq_true zA
                 have hx13 := bt_at x4_5 x6_3
                 replace p13 := eq_true p13
                 replace q13 := eq_true q13
                 have p15 : 0 ≤ (x6_3 : Int) := of_decide_eq_true zA
                 have q15 : x6_3 < (x4_5.size : Int) := of_decide_eq_true zA
                 have hx15 := bt_at x4_5 x6_3
                 replace p15 := eq_true p15
                 replace q15 := eq_true q15
                 go_wp2
                 go_ret2
                 exact ⟨by first | rfl | (simp [errW_none, errW_some] <;> rfl) | (simp [*, errW_none, errW_some] <;> rfl), zB⟩
               · rw [if_neg c16] at H
                 have c16b0 : decide (57 < (bt x4_5 x6_3)) = false := decide_eq_false c16
                 clear c16
                 have H' := Aside0.mk H
                 clear H
                 have p13 : 0 ≤ (x6_3 : Int) := of_decide_eq_true zA
                 have q13 : x6_3 < (x4_5.size : Int) := of_decide_eq_true zA
                 have hx13 := bt_at x4_5 x6_3
                 replace p13 := eq_true p13
                 replace q13 := eq_true q13
                 have p15 : 0 ≤ (x6_3 : Int) := of_decide_eq_true zA
                 have q15 : x6_3 < (x4_5.size : Int) := of_decide_eq_true zA
                 have hx15 := bt_at x4_5 x6_3
                 replace p15 := eq_true p15
                 replace q15 := eq_true q15
                 have p17 : 0 ≤ (x6_3 : Int) := of_decide_eq_true zA
                 have q17 : x6_3 < (x4_5.size : Int) := of_decide_eq_true zA
                 have hx17 := bt_at x4_5 x6_3
                 replace p17 := eq_true p17
                 replace q17 := eq_true q17
                 go_wp2
                 go_roundg k3
                 case measure => have := HJ1.out; have := HJ5.out; have := HK3.out; omega
                 case rel => exact ⟨(wrap64 ((wrap64 (10 * x5_3)) + (((bt x4_5 x6_3) - 48) % 256))), (wrap64 (x6_3 + 1)), (by first | rfl | (simp; done) | (simp [*]; done)), (by first | rfl | (simp; done) | (simp [*]; done)), H', ⟨by have := HJ1.out; have := HJ5.out; have := HK3.out; omega⟩, ⟨zB⟩⟩
           · rw [if_neg c12] at H
             exact absurd H (by simp)
         · rw [if_neg c11] at H
           have c11b0 : decide (x6_3 < (x4_5.size : Int)) = false := decide_eq_false c11
           clear c11
           by_cases c18 : (x4_5.size : Int) < (a0.size : Int)
           · rw [if_pos c18] at H
             have c18b0 := decide_eq_true c18
             have c18b1 : decide (x4_5.size < a0.size) = true := decide_eq_true (Int.ofNat_lt.mp c18)
             clear c18
             replace H := Option.bind_eq_some_iff.mp H
             obtain ⟨t174, A190, H⟩ := H
             replace H : (if t174.toList = a0.toList then (some (wrap64 (-x5_3), true)) else (some (0, false))) = some (r1, r2) := H
             have A19 := Aside0.mk A190
             clear A190
             by_cases c20 : t174.toList = a0.toList
             · rw [if_pos c20] at H
               have c20b0 : (t174.toList == a0.toList) = true := beq_iff_eq.mpr c20
               have c20b1 : (t174.toList != a0.toList) = false := bne_eq_false_iff_eq.mpr c20
               clear c20
               simp only [Option.some.injEq, Prod.mk.injEq] at H
               obtain ⟨rfl, rfl⟩ := H
               go_wp2_with (first | ((with_reducible refine gate_callee (f := 36) rfl ?_); refine zc 54 Tryd.func36 #[.int .i64 (wrap64 (-x5_3))] ?_; (with_reducible refine (spec_l1Num.calls k3 (wrap64 (-x5_3)) t174 _ A19.out).mono ?_); rintro e w21 ⟨rfl, hb⟩; refine ⟨_, rfl, ?_⟩; replace HB := zM (below_step zB hb); (try clear hb); (try clear hb2); (try clear hk); (try clear hi)))
               go_ret2
               exact ⟨by first | rfl | (simp [errW_none, errW_some] <;> rfl) | (simp [*, errW_none, errW_some] <;> rfl), zB⟩
             · rw [if_neg c20] at H
               have c20b0 : (t174.toList == a0.toList) = false := beq_eq_false_iff_ne.mpr c20
               have c20b1 : (t174.toList != a0.toList) = true := bne_iff_ne.mpr c20
               simp only [Option.some.injEq, Prod.mk.injEq] at H
               obtain ⟨rfl, rfl⟩ := H
               go_wp2_with (first | ((with_reducible refine gate_callee (f := 36) rfl ?_); refine zc 54 Tryd.func36 #[.int .i64 (wrap64 (-x5_3))] ?_; (with_reducible refine (spec_l1Num.calls k3 (wrap64 (-x5_3)) t174 _ A19.out).mono ?_); rintro e w22 ⟨rfl, hb⟩; refine ⟨_, rfl, ?_⟩; replace HB := zM (below_step zB hb); (try clear hb); (try clear hb2); (try clear hk); (try clear hi)))
               go_ret2
               exact ⟨by first | rfl | (simp [errW_none, errW_some] <;> rfl) | (simp [*, errW_none, errW_some] <;> rfl), zB⟩
           · rw [if_neg c18] at H
             have c18b0 : decide ((x4_5.size : Int) < (a0.size : Int)) = false := decide_eq_false c18
             have c18b1 : decide (x4_5.size < a0.size) = false := decide_eq_false (fun h => c18 (Int.ofNat_lt.mpr h))
             clear c18
             replace H := Option.bind_eq_some_iff.mp H
             obtain ⟨t175, A230, H⟩ := H
             replace H : (if t175.toList = a0.toList then (some (x5_3, true)) else (some (0, false))) = some (r1, r2) := H
             have A23 := Aside0.mk A230
             clear A230
             by_cases c24 : t175.toList = a0.toList
             · rw [if_pos c24] at H
               have c24b0 : (t175.toList == a0.toList) = true := beq_iff_eq.mpr c24
               have c24b1 : (t175.toList != a0.toList) = false := bne_eq_false_iff_eq.mpr c24
               clear c24
               simp only [Option.some.injEq, Prod.mk.injEq] at H
               obtain ⟨rfl, rfl⟩ := H
               go_wp2_with (first | ((with_reducible refine gate_callee (f := 36) rfl ?_); refine zc 54 Tryd.func36 #[.int .i64 x5_3] ?_; (with_reducible refine (spec_l1Num.calls k3 x5_3 t175 _ A23.out).mono ?_); rintro e w25 ⟨rfl, hb⟩; refine ⟨_, rfl, ?_⟩; replace HB := zM (below_step zB hb); (try clear hb); (try clear hb2); (try clear hk); (try clear hi)))
               go_ret2
               exact ⟨by first | rfl | (simp [errW_none, errW_some] <;> rfl) | (simp [*, errW_none, errW_some] <;> rfl), zB⟩
             · rw [if_neg c24] at H
               have c24b0 : (t175.toList == a0.toList) = false := beq_eq_false_iff_ne.mpr c24
               have c24b1 : (t175.toList != a0.toList) = true := bne_iff_ne.mpr c24
               simp only [Option.some.injEq, Prod.mk.injEq] at H
               obtain ⟨rfl, rfl⟩ := H
               go_wp2_with (first | ((with_reducible refine gate_callee (f := 36) rfl ?_); refine zc 54 Tryd.func36 #[.int .i64 x5_3] ?_; (with_reducible refine (spec_l1Num.calls k3 x5_3 t175 _ A23.out).mono ?_); rintro e w26 ⟨rfl, hb⟩; refine ⟨_, rfl, ?_⟩; replace HB := zM (below_step zB hb); (try clear hb); (try clear hb2); (try clear hk); (try clear hi)))
               go_ret2
               exact ⟨by first | rfl | (simp [errW_none, errW_some] <;> rfl) | (simp [*, errW_none, errW_some] <;> rfl), zB⟩
     · replace c10 := Bool.eq_false_iff.mpr c10
       subst c10
       have H1 : (some (0, false)) = some (r1, r2) := by rw [if_neg (show ¬ (false = true) by decide)] at H; exact H
       clear H
       have H := H1
       clear H1
       simp only [Option.some.injEq, Prod.mk.injEq] at H
       obtain ⟨rfl, rfl⟩ := H
       go_wp2_with (first | ((with_reducible refine gate_callee (f := 35) rfl ?_); refine zc 20 Tryd.func35 #[.int .i64 (x4_5.size : Int), .int .i64 1, .int .i64 6] ?_; (with_reducible refine (spec_l1In.calls (x4_5.size : Int) 1 6 false _ A9.out).mono ?_); rintro e w' ⟨rfl, ⟨nd, rfl⟩⟩; refine ⟨_, rfl, ?_⟩))
       go_ret2
       exact ⟨by first | rfl | (simp [errW_none, errW_some] <;> rfl) | (simp [*, errW_none, errW_some] <;> rfl), zB⟩

/-! ### spec_ParseInt: function 29 -/
def spec_ParseInt.f (k : Nat) (a0 : ByteArray) : Option (Int × Bool) := (spec_l1Read.f k a0).bind fun bt176 => (some (bt176.1, bt176.2))
set_option maxHeartbeats 8000000 in
set_option maxRecDepth 100000 in
theorem spec_ParseInt.calls (k : Nat) (a0 : ByteArray) (r1 : Int) (r2 : Bool) (w : World) (h : spec_ParseInt.f k a0 = some (r1, r2)) :
 Calls Tryd.prog 29 #[.string a0] w fun e w' => e = .returned (.tuple #[.int .i64 r1, .bool r2]) ∧ Below w.heap.size w w' := by
 have HB := zM (Below.refl w.heap.size w)
 have H : ((spec_l1Read.f k a0).bind fun bt176 => (some (bt176.1, bt176.2))) = some (r1, r2) := h
 clear h
 replace H := Option.bind_eq_some_iff.mp H
 obtain ⟨⟨t176, t177⟩, A20, H⟩ := H
 replace H : (some (t176, t177)) = some (r1, r2) := H
 have A2 := Aside0.mk A20
 clear A20
 simp only [Option.some.injEq, Prod.mk.injEq] at H
 obtain ⟨rfl, rfl⟩ := H
 go_enter Tryd.func29, Tryd.ntmps29
 go_wp2_with (first | ((with_reducible refine gate_callee (f := 53) rfl ?_); refine zc 5 Tryd.func53 #[.string a0] ?_; (with_reducible refine (spec_l1Read.calls k a0 t176 t177 _ A2.out).mono ?_); rintro e w3 ⟨rfl, hb⟩; refine ⟨_, rfl, ?_⟩; replace HB := zM (below_step zB hb); (try clear hb); (try clear hb2); (try clear hk); (try clear hi)))
 go_ret2
 exact ⟨by first | rfl | (simp [errW_none, errW_some] <;> rfl) | (simp [*, errW_none, errW_some] <;> rfl), zB⟩

end Go.Proofs.YtcjfmohmjhjpoaaDoor.P
namespace Go.Proofs.YtcjfmohmjhjpoaaDoor.P
open Go.RowKit Go.Proofs.YtcjfmohmjhjpoaaDoorW.PrintWords Go.Proofs.YtcjfmohmjhjpoaaDoorW.PrintLast Go.Proofs.YtcjfmohmjhjpoaaDoorW.PrintMore
theorem bt_nat (s : ByteArray) (m : Nat) (h : m < s.data.toList.length) : bt s (m : Int) = ((s.data.toList[m]).toNat : Int) := by
  have h2 : m < s.size := by rw [Array.length_toList] at h; exact h
  unfold bt
  rw [dif_pos (by rw [Int.toNat_natCast]; exact h2)]
  simp [ByteArray.getElem_eq_getElem_data]
theorem size_len (s : ByteArray) : s.size = s.data.toList.length := (Array.length_toList).symm
/-- The checksum from place i on, of n bytes. -/
def sumF (s : ByteArray) : Nat → Int → Int → Int
  | 0, h, _ => h
  | n + 1, h, i => sumF s n (Int.tmod (wrap64 ((wrap64 ((wrap64 (41 * h)) + (wrap64 (bt s i)))) + 1)) 999979) (i + 1)
def sumI (s : ByteArray) : Int := sumF s s.size 7 0
theorem sumF_range (s : ByteArray) (n : Nat) : ∀ h i, -999979 < h → h < 999979 → -999979 < sumF s n h i ∧ sumF s n h i < 999979 := by
  induction n with
  | zero => intro h i h1 h2; exact ⟨h1, h2⟩
  | succ n ih =>
    intro h i h1 h2
    exact ih _ _ (Int.lt_tmod_of_pos _ (by decide)) (Int.tmod_lt_of_pos _ (by decide))
theorem sumI_range (s : ByteArray) : -999979 < sumI s ∧ sumI s < 999979 := sumF_range s _ _ _ (by decide) (by decide)
theorem specSum_loop (s : ByteArray) (hs : s.size ≤ 1048576) (n : Nat) : ∀ (h i : Int), 0 ≤ i → (s.size : Int) - i = n → Ev (fun k => spec_l1Sum.l0 k s h i) (sumF s n h i) := by
  induction n with
  | zero =>
    intro h i h0 hn
    rw [show sumF s 0 h i = h from rfl]
    exact Ev.step (fun k => by rw [spec_l1Sum.l0]) (Ev.neg (by omega) (Ev.now _))
  | succ n ih =>
    intro h i h0 hn
    refine Ev.step (fun k => by rw [spec_l1Sum.l0]) (Ev.pos (by omega) (Ev.pos h0 ?_))
    rw [wrap_nat (m := i + 1) (by omega) (by omega)]
    exact ih _ _ (by omega) (by omega)
theorem implSum_loop (s : ByteArray) (hs : s.size ≤ 1048576) (n : Nat) : ∀ (h i : Int), 0 ≤ i → (s.size : Int) - i = n → Ev (fun k => impl_checksum.l0 k s h (s.size : Int) i) (sumF s n h i) := by
  induction n with
  | zero =>
    intro h i h0 hn
    rw [show sumF s 0 h i = h from rfl]
    exact Ev.step (fun k => by rw [impl_checksum.l0]) (Ev.neg (by omega) (Ev.now _))
  | succ n ih =>
    intro h i h0 hn
    refine Ev.step (fun k => by rw [impl_checksum.l0]) (Ev.pos (by omega) (Ev.pos h0 (Ev.pos (by omega) ?_)))
    rw [wrap_nat (m := i + 1) (by omega) (by omega)]
    exact ih _ _ (by omega) (by omega)
theorem spec_l1Sum_ev (s : ByteArray) (hs : s.size ≤ 1048576) : Ev (fun k => spec_l1Sum.f k s) (sumI s) := specSum_loop s hs _ 7 0 (by omega) (by omega)
theorem impl_checksum_ev (s : ByteArray) (hs : s.size ≤ 1048576) : Ev (fun k => impl_checksum.f k s) (sumI s) := implSum_loop s hs _ 7 0 (by omega) (by omega)
theorem toNat_inj (a b : UInt8) : ((a.toNat : Int) = (b.toNat : Int)) ↔ a = b := by
  constructor
  · intro h
    exact UInt8.toNat_inj.1 (by omega)
  · intro h; rw [h]
theorem idx_mem (l : List UInt8) (c : UInt8) : decide (0 ≤ Lib.indexByte l c) = decide (c ∈ l) := by
  induction l with
  | nil => simp [Lib.indexByte]
  | cons b l ih =>
    have hg := Lib.indexByte_ge l c
    rw [Lib.indexByte]
    by_cases h : b = c
    · subst h; simp
    · rw [if_neg (by simpa using h)]
      have h2 : (c ∈ b :: l) ↔ (c ∈ l) := by
        rw [List.mem_cons]
        exact ⟨fun h3 => h3.resolve_left (fun e => h e.symm), .inr⟩
      rw [decide_eq_decide.2 h2, ← ih]
      by_cases h3 : Lib.indexByte l c = -1
      · rw [if_pos (by simp [h3]), h3]
      · rw [if_neg (by simpa using h3)]
        exact decide_eq_decide.2 (by omega)
theorem stands_loop (s : ByteArray) (c : UInt8) (hs : s.size ≤ 1048576) (d : Nat) : ∀ m : Nat, s.size - m = d → m ≤ s.size → Ev (fun k => spec_l1Stands.l0 k s (c.toNat : Int) (m : Int)) (decide (c ∈ s.data.toList.drop m)) := by
  have hl := size_len s
  induction d with
  | zero =>
    intro m h1 h2
    rw [List.drop_eq_nil_of_le (by omega), show decide (c ∈ ([] : List UInt8)) = false from rfl]
    exact Ev.step (fun k => by rw [spec_l1Stands.l0]) (Ev.neg (by omega) (Ev.now _))
  | succ d ih =>
    intro m h1 h2
    have hm : m < s.data.toList.length := by omega
    refine Ev.step (fun k => by rw [spec_l1Stands.l0]) (Ev.pos (by omega) (Ev.pos (by omega) ?_))
    rw [bt_nat s m hm, List.drop_eq_getElem_cons hm, wrap_up (m := m) (n := s.size) (by omega) (by omega)]
    by_cases h : s.data.toList[m] = c
    · rw [show decide (c ∈ s.data.toList[m] :: s.data.toList.drop (m + 1)) = true from decide_eq_true (by rw [h]; exact List.mem_cons_self ..)]
      exact Ev.pos ((toNat_inj _ _).2 h) (Ev.now _)
    · refine Ev.neg (fun e => h ((toNat_inj _ _).1 e)) ?_
      have h2 : (c ∈ s.data.toList[m] :: s.data.toList.drop (m + 1)) ↔ (c ∈ s.data.toList.drop (m + 1)) := by
        rw [List.mem_cons]
        exact ⟨fun h3 => h3.resolve_left (fun e => h e.symm), .inr⟩
      rw [decide_eq_decide.2 h2]
      exact ih (m + 1) (by omega) (by omega)
theorem stands_ev (s : ByteArray) (c : UInt8) (hs : s.size ≤ 1048576) : Ev (fun k => spec_l1Stands.f k s (c.toNat : Int)) (decide (c ∈ s.data.toList)) := by
  have := stands_loop s c hs _ 0 rfl (Nat.zero_le _)
  rwa [List.drop_zero] at this
/-- A text, the sign # and the numeral of its checksum. -/
def sealB (s : ByteArray) : ByteArray := (s ++ (⟨#[35]⟩ : ByteArray)) ++ str (Lib.itoa (sumI s))
theorem seal_size (s : ByteArray) : (sealB s).size = s.size + 1 + (Lib.itoa (sumI s)).length := by
  rw [sealB, ByteArray.size_append, ByteArray.size_append, str_size]
  rfl
theorem seal_ev (s : ByteArray) (hs : s.size ≤ 1048576) : Ev (fun k => spec_l1Seal.f k s) (sealB s) := by
  have h := sumI_range s
  have hl := Lib.itoa_length_le (sumI s) (by omega) (by omega)
  unfold spec_l1Seal.f
  refine Ev.pos (by omega) ?_
  refine Ev.bind (spec_l1Sum_ev s hs) ?_
  refine Ev.bind (num_any (sumI s) (by omega) (by omega)) ?_
  refine Ev.pos ?_ (Ev.now _)
  rw [ByteArray.size_append, str_size, show (⟨#[35]⟩ : ByteArray).size = 1 from rfl]
  omega
/-- What AppendChecksum answers. -/
def appR (s : ByteArray) : ByteArray × Bool := if s.size ≤ 4000 ∧ ¬ (35 : UInt8) ∈ s.data.toList ∧ (sealB s).size ≤ 4000 then (sealB s, true) else (⟨#[]⟩, false)
theorem spec_AppendChecksum_ev (s : ByteArray) (hs : s.size ≤ 1048576) : Ev (fun k => spec_AppendChecksum.f k s) (appR s) := by
  unfold spec_AppendChecksum.f appR
  by_cases h1 : s.size ≤ 4000
  · refine Ev.neg (by omega) ?_
    refine Ev.bind (stands_ev s 35 hs) ?_
    by_cases h2 : (35 : UInt8) ∈ s.data.toList
    · rw [if_neg (fun h => h.2.1 h2)]
      exact Ev.pos (decide_eq_true h2) (Ev.now _)
    · refine Ev.neg (by simpa using h2) ?_
      refine Ev.bind (seal_ev s hs) ?_
      by_cases h3 : (sealB s).size ≤ 4000
      · rw [if_pos ⟨h1, h2, h3⟩]
        refine Ev.neg (by omega) ?_
        exact Ev.bind (seal_ev s hs) (Ev.now _)
      · rw [if_neg (fun h => h3 h.2.2)]
        exact Ev.pos (by omega) (Ev.now _)
  · rw [if_neg (fun h => h1 h.1)]
    exact Ev.pos (by omega) (Ev.now _)
end Go.Proofs.YtcjfmohmjhjpoaaDoor.P
namespace Go.Proofs.YtcjfmohmjhjpoaaDoor.P
open Go.RowKit Go.Proofs.YtcjfmohmjhjpoaaDoorW.PrintWords Go.Proofs.YtcjfmohmjhjpoaaDoorW.PrintLast Go.Proofs.YtcjfmohmjhjpoaaDoorW.PrintMore
theorem str_eq_iff (a b : ByteArray) : a.toList = b.toList ↔ a = b := by
  rw [ByteArray.toList_eq, ByteArray.toList_eq]
  constructor
  · intro h
    rw [← str_data a, ← str_data b, h]
  · intro h; rw [h]
def pre (p : List UInt8) : List (List UInt8) → List (List UInt8)
  | [] => [p]
  | x :: xs => (p ++ x) :: xs
/-- The pieces between the bytes c. -/
def spl (c : UInt8) : List UInt8 → List (List UInt8)
  | [] => [[]]
  | b :: l => if b = c then [] :: spl c l else pre [b] (spl c l)
theorem pre_ne (p : List UInt8) (z : List (List UInt8)) : pre p z ≠ [] := by cases z <;> simp [pre]
theorem spl_ne (c : UInt8) (l : List UInt8) : spl c l ≠ [] := by
  cases l with
  | nil => simp [spl]
  | cons b l => rw [spl]; split; simp; exact pre_ne _ _
theorem extract_str (s : ByteArray) (a b : Nat) : s.extract a b = str ((s.data.toList.take b).drop a) := by
  apply ByteArray.ext
  apply Array.ext'
  rw [ByteArray.data_extract, Array.toList_extract, List.extract_eq_take_drop, List.drop_take]
  rfl
theorem spl_head (c : UInt8) (l : List UInt8) : (spl c l).headD [] = (Lib.cut l [c]).1 := by
  have key : ∀ l : List UInt8, (spl c l).headD [] = if 0 ≤ Lib.indexByte l c then l.take (Lib.indexByte l c).toNat else l := by
    intro l
    induction l with
    | nil => simp [spl, Lib.indexByte]
    | cons b l ih =>
      have hg := Lib.indexByte_ge l c
      have hx : Lib.indexByte (b :: l) c = if b = c then 0 else if Lib.indexByte l c = -1 then -1 else Lib.indexByte l c + 1 := by
        rw [Lib.indexByte]
        simp only [beq_iff_eq]
      by_cases h : b = c
      · rw [if_pos h] at hx
        rw [hx, spl, if_pos h]
        simp
      · rw [if_neg h] at hx
        have hp : (pre [b] (spl c l)).headD [] = b :: (spl c l).headD [] := by
          cases hz : spl c l with
          | nil => exact absurd hz (spl_ne _ _)
          | cons x xs => simp [pre]
        rw [spl, if_neg h, hp, ih]
        by_cases h3 : Lib.indexByte l c = -1
        · rw [if_pos h3] at hx
          rw [hx, h3, if_neg (by decide), if_neg (by decide)]
        · rw [if_neg h3] at hx
          rw [hx, if_pos (by omega), if_pos (by omega), show (Lib.indexByte l c + 1).toNat = (Lib.indexByte l c).toNat + 1 by omega, List.take_succ_cons]
  rw [key, Lib.cut, Lib.index_one]
  split <;> rfl
/-- The text ahead of the first #. -/
def headB (s : ByteArray) : ByteArray := str (Lib.cut s.data.toList [35]).1
theorem headB_le (s : ByteArray) : (headB s).size ≤ s.size := by
  rw [headB, str_size, size_len, Lib.cut]
  split
  · exact List.length_take_le' _ _
  · exact Nat.le_refl _
theorem headB_free (s : ByteArray) : ¬ (35 : UInt8) ∈ (headB s).data.toList := by
  have e : (headB s).data.toList = (Lib.cut s.data.toList [35]).1 := by simp [headB, str]
  rw [e, ← spl_head]
  have key : ∀ l : List UInt8, ¬ (35 : UInt8) ∈ (spl 35 l).headD [] := by
    intro l
    induction l with
    | nil => simp [spl]
    | cons b l ih =>
      rw [spl]
      by_cases h : b = 35
      · rw [if_pos h]; simp
      · rw [if_neg h]
        cases hz : spl 35 l with
        | nil => exact absurd hz (spl_ne _ _)
        | cons x xs =>
          rw [hz] at ih
          simp only [pre, List.headD_cons, List.singleton_append, List.mem_cons, not_or] at ih ⊢
          exact ⟨fun e => h e.symm, ih⟩
  exact key _
/-- What VerifyChecksum answers. -/
def verR (s : ByteArray) : ByteArray × Bool := if s.size ≤ 4000 ∧ sealB (headB s) = s then (headB s, true) else (⟨#[]⟩, false)
end Go.Proofs.YtcjfmohmjhjpoaaDoor.P
namespace Go.Proofs.YtcjfmohmjhjpoaaDoor.P
open Go.RowKit Go.Proofs.YtcjfmohmjhjpoaaDoorW.PrintWords Go.Proofs.YtcjfmohmjhjpoaaDoorW.PrintLast Go.Proofs.YtcjfmohmjhjpoaaDoorW.PrintMore
def isDig (c : UInt8) : Bool := decide (48 ≤ c.toNat ∧ c.toNat ≤ 57)
def valD (a : Nat) (l : List UInt8) : Nat := l.foldl (fun a c => a * 10 + (c.toNat - 48)) a
theorem valD_nil (a : Nat) : valD a [] = a := rfl
theorem valD_cons (a : Nat) (c : UInt8) (r : List UInt8) : valD a (c :: r) = valD (a * 10 + (c.toNat - 48)) r := by
  unfold valD
  rw [List.foldl_cons]
theorem dec_small (n : Nat) (h : n < 10) : Lib.decDigits n = [UInt8.ofNat (48 + n)] := by
  rw [Lib.decDigits]
  exact dif_pos h
theorem dec_big (n : Nat) (h : ¬ n < 10) : Lib.decDigits n = Lib.decDigits (n / 10) ++ [UInt8.ofNat (48 + n % 10)] := by
  have e := Lib.decDigits.eq_def n
  rw [dif_neg h] at e
  exact e
theorem valD_append (l m : List UInt8) : ∀ a, valD a (l ++ m) = valD (valD a l) m := by
  intro a
  exact List.foldl_append
theorem dig_byte (d : Nat) (h : d < 10) : (UInt8.ofNat (48 + d)).toNat = 48 + d := by
  rw [UInt8.toNat_ofNat']; omega
theorem dec_val (n : Nat) : valD 0 (Lib.decDigits n) = n := by
  induction n using Nat.strongRecOn with
  | _ n ih =>
    by_cases h : n < 10
    · rw [dec_small n h, valD_cons, valD_nil, dig_byte n h]; omega
    · rw [dec_big n h, valD_append, ih (n / 10) (by omega), valD_cons, valD_nil, dig_byte (n % 10) (Nat.mod_lt _ (by decide))]; omega
theorem dec_dig (n : Nat) : (Lib.decDigits n).all isDig = true := by
  induction n using Nat.strongRecOn with
  | _ n ih =>
    by_cases h : n < 10
    · rw [dec_small n h, List.all_cons, List.all_nil, Bool.and_true, isDig, dig_byte n h]; exact decide_eq_true (by omega)
    · rw [dec_big n h, List.all_append, ih (n / 10) (by omega), List.all_cons, List.all_nil, Bool.and_true, Bool.true_and, isDig, dig_byte (n % 10) (Nat.mod_lt _ (by decide))]; exact decide_eq_true (by omega)
theorem dec_len (k n : Nat) (h : n < 10 ^ (k + 1)) : (Lib.decDigits n).length ≤ k + 1 := by
  induction k generalizing n with
  | zero => rw [dec_small n (by simpa using h)]; exact Nat.le_refl _
  | succ k ih =>
    by_cases h2 : n < 10
    · rw [dec_small n h2]; simp
    · rw [dec_big n h2, List.length_append, List.length_singleton]
      have := ih (n / 10) (by rw [Nat.pow_succ] at h; omega)
      omega
theorem dec_pos (n : Nat) : 1 ≤ (Lib.decDigits n).length := by
  by_cases h : n < 10
  · rw [dec_small n h]; exact Nat.le_refl _
  · rw [dec_big n h, List.length_append, List.length_singleton]; omega
theorem valD_ge (l : List UInt8) : ∀ a, a ≤ valD a l := by
  induction l with
  | nil => intro a; exact Nat.le_refl _
  | cons c r ih => intro a; exact Nat.le_trans (by omega) (ih (a * 10 + (c.toNat - 48)))
theorem parse_ok (l : List UInt8) : ∀ a, l.all isDig = true → valD a l < 1844674407370955162 → Lib.parseUint10 a l = .ok (valD a l) := by
  induction l with
  | nil => intro a _ _; rfl
  | cons c r ih =>
    intro a hd hv
    rw [List.all_cons, Bool.and_eq_true] at hd
    have hc : 48 ≤ c.toNat ∧ c.toNat ≤ 57 := of_decide_eq_true hd.1
    rw [valD_cons] at hv ⊢
    have hg := valD_ge r (a * 10 + (c.toNat - 48))
    rw [Lib.parseUint10, if_pos hc, if_neg (by omega), if_neg (by omega)]
    exact ih _ hd.2 hv
theorem mag_dec (n : Nat) (h : n < 1844674407370955162) : Lib.parseMag (Lib.decDigits n) = .ok n := by
  have hp := dec_pos n
  rw [Lib.parseMag, if_neg (fun e => by rw [e] at hp; exact absurd hp (by decide)), parse_ok _ 0 (dec_dig n) (by rw [dec_val]; exact h), dec_val]
theorem atoi_itoa (n : Int) (h : -999999 ≤ n ∧ n ≤ 999999) : Lib.atoiAll (Lib.itoa n) = .ok n := by
  rw [Lib.itoa]
  by_cases h0 : n < 0
  · rw [if_pos h0, Lib.atoiAll_minus, mag_dec _ (by omega), Lib.signed, if_neg (by omega)]
    congr 1
    omega
  · rw [if_neg h0]
    have hm := mag_dec n.toNat (by omega)
    have hd := dec_dig n.toNat
    have hp := dec_pos n.toNat
    cases hz : Lib.decDigits n.toNat with
    | nil => rw [hz] at hp; exact absurd hp (by decide)
    | cons c r =>
      rw [hz] at hm hd
      rw [List.all_cons, Bool.and_eq_true] at hd
      have hc : 48 ≤ c.toNat ∧ c.toNat ≤ 57 := of_decide_eq_true hd.1
      rw [Lib.atoiAll_plain c r (by omega) (by omega), hm, Lib.signless, if_neg (by omega)]
      congr 1
      omega
/-- The text is the numeral of a number that the program formats. -/
def Numeral (s : ByteArray) : Prop := ∃ n : Int, (-999999 ≤ n ∧ n ≤ 999999) ∧ s = str (Lib.itoa n)
def finR (x t : ByteArray) (v : Nat) : Int × Bool :=
  if t.size < x.size then (if str (Lib.itoa (-(v : Int))) = x then (-(v : Int), true) else (0, false)) else (if str (Lib.itoa (v : Int)) = x then ((v : Int), true) else (0, false))
theorem read_loop (x t : ByteArray) (ht : t.size ≤ 6) (d : Nat) : ∀ m a : Nat, t.size - m = d → m ≤ t.size → a < 10 ^ m →
    Ev (fun k => spec_l1Read.l0 k x t (a : Int) (m : Int)) (if (t.data.toList.drop m).all isDig = true then finR x t (valD a (t.data.toList.drop m)) else (0, false)) := by
  have hl := size_len t
  induction d with
  | zero =>
    intro m a h1 h2 h3
    have ha : a < 1000000 := Nat.lt_of_lt_of_le h3 (Nat.pow_le_pow_right (n := 10) (by decide) (show m ≤ 6 by omega))
    rw [List.drop_eq_nil_of_le (by omega), List.all_nil, if_pos rfl, valD_nil]
    refine Ev.step (fun k => by rw [spec_l1Read.l0]) (Ev.neg (by omega) ?_)
    unfold finR
    by_cases c : t.size < x.size
    · rw [if_pos c]
      refine Ev.pos (by omega) ?_
      rw [wrap_nat (m := -(a : Int)) (by omega) (by omega)]
      refine Ev.bind (num_any (-(a : Int)) (by omega) (by omega)) ?_
      by_cases e : str (Lib.itoa (-(a : Int))) = x
      · rw [if_pos e]; exact Ev.pos ((str_eq_iff _ _).2 e) (Ev.now _)
      · rw [if_neg e]; exact Ev.neg (fun h => e ((str_eq_iff _ _).1 h)) (Ev.now _)
    · rw [if_neg c]
      refine Ev.neg (by omega) ?_
      refine Ev.bind (num_any (a : Int) (by omega) (by omega)) ?_
      by_cases e : str (Lib.itoa (a : Int)) = x
      · rw [if_pos e]; exact Ev.pos ((str_eq_iff _ _).2 e) (Ev.now _)
      · rw [if_neg e]; exact Ev.neg (fun h => e ((str_eq_iff _ _).1 h)) (Ev.now _)
  | succ d ih =>
    intro m a h1 h2 h3
    have hm : m < t.data.toList.length := by omega
    have ha : a < 1000000 := Nat.lt_of_lt_of_le h3 (Nat.pow_le_pow_right (n := 10) (by decide) (show m ≤ 6 by omega))
    rw [List.drop_eq_getElem_cons hm, List.all_cons, valD_cons]
    have hb := bt_nat t m hm
    by_cases c1 : (t.data.toList[m]).toNat < 48
    · rw [show isDig t.data.toList[m] = false from decide_eq_false (by omega), Bool.false_and, if_neg (by decide)]
      refine Ev.step (fun k => by rw [spec_l1Read.l0]) (Ev.pos (by omega) (Ev.pos (by omega) (Ev.pos ?_ (Ev.now _))))
      rw [hb]; omega
    · by_cases c2 : (t.data.toList[m]).toNat > 57
      · rw [show isDig t.data.toList[m] = false from decide_eq_false (by omega), Bool.false_and, if_neg (by decide)]
        refine Ev.step (fun k => by rw [spec_l1Read.l0]) (Ev.pos (by omega) (Ev.pos (by omega) (Ev.neg ?_ (Ev.pos ?_ (Ev.now _)))))
        · rw [hb]; omega
        · rw [hb]; omega
      · rw [show isDig t.data.toList[m] = true from decide_eq_true (by omega), Bool.true_and]
        refine Ev.step (fun k => by rw [spec_l1Read.l0]) (Ev.pos (by omega) (Ev.pos (by omega) (Ev.neg ?_ (Ev.neg ?_ ?_))))
        · rw [hb]; omega
        · rw [hb]; omega
        · rw [hb, wrap_up (m := m) (n := t.size) (by omega) (by omega), wrap_nat (m := 10 * (a : Int)) (by omega) (by omega), show (((t.data.toList[m]).toNat : Int) - 48) % 256 = (((t.data.toList[m]).toNat - 48 : Nat) : Int) by omega,
            wrap_nat (by omega) (by omega), show 10 * (a : Int) + (((t.data.toList[m]).toNat - 48 : Nat) : Int) = ((a * 10 + ((t.data.toList[m]).toNat - 48) : Nat) : Int) by omega]
          exact ih (m + 1) _ (by omega) (by omega) (by rw [Nat.pow_succ]; omega)
theorem valD_lt (l : List UInt8) : ∀ a m, a < 10 ^ m → l.all isDig = true → valD a l < 10 ^ (m + l.length) := by
  induction l with
  | nil => intro a m h _; exact h
  | cons c r ih =>
    intro a m h hd
    rw [List.all_cons, Bool.and_eq_true] at hd
    have hc : 48 ≤ c.toNat ∧ c.toNat ≤ 57 := of_decide_eq_true hd.1
    have := ih (a * 10 + (c.toNat - 48)) (m + 1) (by rw [Nat.pow_succ]; omega) hd.2
    rw [valD_cons, List.length_cons]
    rwa [show m + (r.length + 1) = m + 1 + r.length by omega]
/-- Behind the sign. -/
theorem read_mag (x t : ByteArray) : ∃ r, Ev (fun k => spec_l1Read.j1 k x t) r ∧ (r = (0, false) ∨ Numeral x) ∧ ∀ n : Nat, n ≤ 999999 → t = str (Lib.decDigits n) → r = finR x t n := by
  by_cases h : 1 ≤ t.size ∧ t.size ≤ 6
  · have h0 := read_loop x t h.2 _ 0 0 rfl (Nat.zero_le _) (by decide)
    rw [List.drop_zero] at h0
    refine ⟨_, Ev.step (fun k => by rw [spec_l1Read.j1]) (Ev.bindo (a := true) ?_ (Ev.pos rfl h0)), ?_, ?_⟩
    · unfold spec_l1In.f
      rw [if_pos (by omega)]
      exact congrArg some (decide_eq_true (by omega))
    · by_cases hd : t.data.toList.all isDig = true
      · have hv : valD 0 t.data.toList < 10 ^ 6 := by
          have h1 := valD_lt t.data.toList 0 0 (by decide) hd
          exact Nat.lt_of_lt_of_le h1 (Nat.pow_le_pow_right (n := 10) (by decide) (by have := size_len t; omega))
        rw [if_pos hd]
        unfold finR
        by_cases c : t.size < x.size
        · rw [if_pos c]
          by_cases e : str (Lib.itoa (-(valD 0 t.data.toList : Int))) = x
          · exact .inr ⟨_, by omega, e.symm⟩
          · exact .inl (if_neg e)
        · rw [if_neg c]
          by_cases e : str (Lib.itoa (valD 0 t.data.toList : Int)) = x
          · exact .inr ⟨_, by omega, e.symm⟩
          · exact .inl (if_neg e)
      · exact .inl (if_neg hd)
    · intro n hn e
      have e2 : t.data.toList = Lib.decDigits n := by rw [e]; simp [str]
      rw [e2, if_pos (dec_dig n), dec_val]
  · refine ⟨(0, false), Ev.step (fun k => by rw [spec_l1Read.j1]) (Ev.bindo (a := false) ?_ (Ev.neg (show ¬ (false = true) by decide) (Ev.now _))), .inl rfl, ?_⟩
    · unfold spec_l1In.f
      by_cases h1 : (t.size : Int) ≥ 1
      · rw [if_pos h1]; exact congrArg some (decide_eq_false (by omega))
      · rw [if_neg h1]
    · intro n hn e
      refine absurd ⟨?_, ?_⟩ h
      · rw [e, str_size]; exact dec_pos n
      · rw [e, str_size]; exact dec_len 5 n (by omega)
theorem spec_l1Read_ev (x : ByteArray) : ∃ r : Int × Bool, Ev (fun k => spec_l1Read.f k x) r ∧ (¬ Numeral x → r = (0, false)) ∧ ∀ n : Int, -999999 ≤ n ∧ n ≤ 999999 → x = str (Lib.itoa n) → r = (n, true) := by
  have hl := size_len x
  by_cases c : x.size > 1 ∧ bt x 0 = 45
  · obtain ⟨r, h1, h2, h3⟩ := read_mag x (x.extract 1 x.size)
    refine ⟨r, ?_, fun hn => h2.resolve_right hn, ?_⟩
    · unfold spec_l1Read.f
      refine Ev.pos (by omega) (Ev.pos (by omega) ?_)
      exact Ev.step (fun k => by rw [spec_l1Read.j0]) (Ev.pos (by rw [c.2]; rfl) (Ev.pos (by omega) h1))
    · intro n hn e
      by_cases h0 : n < 0
      · have ei : Lib.itoa n = 45 :: Lib.decDigits n.natAbs := if_pos h0
        have et : x.extract 1 x.size = str (Lib.decDigits n.natAbs) := by
          rw [extract_str, e, ei, str_size]
          simp [str]
        rw [h3 n.natAbs (by omega) et, finR, if_pos (by rw [et, e, ei, str_size, str_size, List.length_cons]; omega), show -((n.natAbs : Nat) : Int) = n by omega, if_pos e.symm]
      · have ei : Lib.itoa n = Lib.decDigits n.toNat := if_neg h0
        exfalso
        have hd := dec_dig n.toNat
        have ex : x.data.toList = Lib.decDigits n.toNat := by rw [e, ei]; simp [str]
        have hb := bt_nat x 0 (by omega)
        rw [← ex] at hd
        have h4 := List.all_eq_true.1 hd (x.data.toList[0]'(by omega)) (List.getElem_mem _)
        have h5 : 48 ≤ (x.data.toList[0]'(by omega)).toNat ∧ _ := of_decide_eq_true h4
        have h6 := c.2
        rw [show (0 : Int) = ((0 : Nat) : Int) from rfl, hb] at h6
        omega
  · obtain ⟨r, h1, h2, h3⟩ := read_mag x x
    refine ⟨r, ?_, fun hn => h2.resolve_right hn, ?_⟩
    · unfold spec_l1Read.f
      by_cases c1 : x.size > 1
      · refine Ev.pos (by omega) (Ev.pos (by omega) ?_)
        exact Ev.step (fun k => by rw [spec_l1Read.j0]) (Ev.neg (fun e => c ⟨c1, by simpa using e⟩) h1)
      · refine Ev.neg (by omega) ?_
        exact Ev.step (fun k => by rw [spec_l1Read.j0]) (Ev.neg (by decide) h1)
    · intro n hn e
      by_cases h0 : n < 0
      · exfalso
        have ei : Lib.itoa n = 45 :: Lib.decDigits n.natAbs := if_pos h0
        have ex : x.data.toList = 45 :: Lib.decDigits n.natAbs := by rw [e, ei]; simp [str]
        have hp := dec_pos n.natAbs
        have hsz : x.size > 1 := by rw [e, ei, str_size, List.length_cons]; omega
        refine c ⟨hsz, ?_⟩
        have hb := bt_nat x 0 (by omega)
        rw [show (0 : Int) = ((0 : Nat) : Int) from rfl, hb]
        simp only [ex, List.getElem_cons_zero]
        rfl
      · have ei : Lib.itoa n = Lib.decDigits n.toNat := if_neg h0
        rw [h3 n.toNat (by omega) (by rw [e, ei]), finR, if_neg (by omega), show ((n.toNat : Nat) : Int) = n by omega, if_pos e.symm]
theorem spec_ParseInt_ev (x : ByteArray) : ∃ r : Int × Bool, Ev (fun k => spec_ParseInt.f k x) r ∧ (¬ Numeral x → r = (0, false)) ∧ ∀ n : Int, -999999 ≤ n ∧ n ≤ 999999 → x = str (Lib.itoa n) → r = (n, true) := by
  obtain ⟨r, h1, h2, h3⟩ := spec_l1Read_ev x
  exact ⟨r, Ev.bind h1 (Ev.now _), h2, h3⟩
end Go.Proofs.YtcjfmohmjhjpoaaDoor.P
