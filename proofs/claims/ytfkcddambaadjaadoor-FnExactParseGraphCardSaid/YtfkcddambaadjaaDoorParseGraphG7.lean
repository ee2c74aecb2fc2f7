-- Written by a program of this session (the kit's print, turned: wip/print/patch.py) out of the translation. Not trusted: Lean checks it.
import Derived.Test.YtfkcddambaadjaaDoorParseGraphG3
import Derived.Test.YtfkcddambaadjaaDoorParseGraphG4
import Derived.Test.YtfkcddambaadjaaDoorParseGraphG5
import Derived.Test.YtfkcddambaadjaaDoorParseGraphG6
import Derived.Lib.IndexBytes
import Derived.Laws.Strings
import Derived.Lib.AtoiAllCases
import Derived.Lib.AtoiErrMem
import Derived.Stop.LaidErr
import Derived.Deep.DeepWitnessRowRef
import Derived.Handy
import Derived.Shelf.Abstract
namespace Go.Proofs.YtfkcddambaadjaaDoor.P
open Go.RowKit Go.Proofs.YtfkcddambaadjaaDoorW.PrintWords Go.Proofs.YtfkcddambaadjaaDoorW.PrintLast Go.Proofs.YtfkcddambaadjaaDoorW.PrintMore
attribute [local go_sem] max2_int min2_int max_two min_two max_three min_three max_four min_four   -- for this text's walks alone
set_option linter.unusedVariables false
set_option linter.unusedSimpArgs false

/-! ### spec_l1Split: function 21 -/
def spec_l1Split.l0 : Nat → ByteArray → Int → List ByteArray → Int → Int → Option (List ByteArray)
 | 0, _, _, _, _, _ => none
 | k + 1, x0, x1, x5, x6, x7 => if x7 < (x0.size : Int) then (if 0 ≤ x7 then (if (bt x0 x7) = x1 then (if 0 ≤ x6 then (if x6 ≤ x7 then (if x7 ≤ (x0.size : Int) then (if x5.length < 8796093022208 then (spec_l1Split.l0 k x0 x1 (x5 ++ [x0.extract (x6 : Int).toNat (x7 : Int).toNat]) (wrap64 (x7 + 1)) (wrap64 (x7 + 1))) else (none)) else (none)) else (none)) else (none)) else (spec_l1Split.l0 k x0 x1 x5 x6 (wrap64 (x7 + 1)))) else (none)) else (if 0 ≤ x6 then (if x6 ≤ (x0.size : Int) then (if x5.length < 8796093022208 then (some (x5 ++ [x0.extract (x6 : Int).toNat x0.size])) else (none)) else (none)) else (none))
def spec_l1Split.f (k : Nat) (a0 : ByteArray) (a1 : Int) : Option (List ByteArray) := spec_l1Split.l0 k a0 a1 (([] : List ByteArray)) 0 0
set_option maxHeartbeats 8000000 in
set_option maxRecDepth 100000 in
theorem spec_l1Split.calls (k : Nat) (a0 : ByteArray) (a1 : Int) (r : List ByteArray) (w : World) (h : spec_l1Split.f k a0 a1 = some r) :
 Calls Tryd.prog 21 #[.string a0, .int .u8 a1] w fun e w' => ∃ v0_ : Value, e = .returned (v0_) ∧ Kd.R Kd.string 9 w' w.heap.size (fun _ => True) v0_ r ∧ Below w.heap.size w w' := by
 have HB := zM (Below.refl w.heap.size w)
 have H : (spec_l1Split.l0 k a0 a1 (([] : List ByteArray)) 0 0) = some r := h
 clear h
 obtain ⟨y194, hy194⟩ : ∃ y_ : List ByteArray, y_ = (([] : List ByteArray)) := ⟨_, rfl⟩
 replace H : (spec_l1Split.l0 k a0 a1 y194 0 0) = some r := by first | (rw [hy194]; with_reducible exact H) | (have H2_ := (Option.bind_some _ _).symm.trans H; rw [hy194]; with_reducible exact H2_) | (have H2_ := (Option.bind_some _ _).symm.trans H; with_reducible exact H2_) | with_reducible exact H | (rw [hy194]; exact H) | exact H
 have Ny194 := Aside0.mk hy194
 clear hy194
 have H' := Aside0.mk H
 clear H
 go_enter Tryd.func21, Tryd.ntmps21
 go_wp2_with (first | ((with_reducible refine gate_dst (N := 8) rfl ?_); refine Kd.R_lit Kd.string _ 9 ?hg (N := 8) ?hd (xs := ([] : List ByteArray)) (inner := []) (ok := fun _ => True) (okp := fun _ => True) ?hr ?hp (fun _ hk => hk) trivial (Below.refl _ _) (Nat.le_refl _) (by simp) ?_; (case hd => rfl); (case hg => rfl); (case hr => first | (go_simp; done) | (go_simp; rfl)); (case hp => exact (Reps.none _ _)); intro v195 w3 ho4 hb hg_ hnew_; clear hg_ hnew_; (first | rw [← Ny194.out] at ho4 | (simp only [Int.reduceToNat] at ho4; rw [← Ny194.out] at ho4)); have HO196 := zM (Kd.R_lower ho4 (below_size zB)); replace HB := zM (below_step zB hb); clear hb ho4))
 go_loopg [5, 6, 7] k (fun kq v5 v6 v7 w' => ∃ (x5_1 : List ByteArray) (x6_1 : Int) (x7_1 : Int), v6 = .int .i64 x6_1 ∧ v7 = .int .i64 x7_1 ∧ Aside0 (spec_l1Split.l0 kq a0 a1 x5_1 x6_1 x7_1 = some r) ∧ Aside0 (kq ≤ k) ∧ Aside0 (Kd.R Kd.string 9 w' w.heap.size (fun _ => True) v5 x5_1) ∧ Aside0 (Below w.heap.size w w'))
 case atStart => exact ⟨(y194), (0), (0), (by first | rfl | (simp; done) | (simp [*]; done)), (by first | rfl | (simp; done) | (simp [*]; done)), H', ⟨Nat.le_refl _⟩, ⟨zR HO196.out⟩, ⟨zB⟩⟩
 case round =>
  clear H'
  try clear c2
  try clear p2
  obtain ⟨x5_1, x6_1, x7_1, rfl, rfl, HA, HK1, HO_5, HB⟩ := hrel
  cases gk with
  | zero => exact absurd HA.out (by simp [spec_l1Split.l0])
  | succ k1 =>
   have H := HA.out
   clear HA
   simp only [spec_l1Split.l0] at H
   by_cases c5 : x7_1 < (a0.size : Int)
   · rw [if_pos c5] at H
     have c5b0 := decide_eq_true c5
     clear c5
     by_cases c6 : 0 ≤ x7_1
     · rw [if_pos c6] at H
       have c6b0 := decide_eq_true c6
       clear c6
       by_cases c8 : (bt a0 x7_1) = a1
       · rw [if_pos c8] at H
         have c8b0 : ((bt a0 x7_1) == a1) = true := beq_iff_eq.mpr c8
         have c8b1 : ((bt a0 x7_1) != a1) = false := bne_eq_false_iff_eq.mpr c8
         clear c8
         by_cases c9 : 0 ≤ x6_1
         · rw [if_pos c9] at H
           have c9b0 := eq_true c9
           have c9b1 : decide (0 ≤ x6_1) = true := decide_eq_true c9
           clear c9
           by_cases c10 : x6_1 ≤ x7_1
           · rw [if_pos c10] at H
             have c10b0 := eq_true c10
             have c10b1 : decide (x6_1 ≤ x7_1) = true := decide_eq_true c10
             clear c10
             by_cases c11 : x7_1 ≤ (a0.size : Int)
             · rw [if_pos c11] at H
               have c11b0 := eq_true c11
               have c11b1 : decide (x7_1 ≤ (a0.size : Int)) = true := decide_eq_true c11
               clear c11
               by_cases c12 : x5_1.length < 8796093022208
               · rw [if_pos c12] at H
                 have LMc12 := Aside0.mk c12
                 clear c12
                 obtain ⟨y197, hy197⟩ : ∃ y_ : List ByteArray, y_ = (x5_1 ++ [a0.extract (x6_1 : Int).toNat (x7_1 : Int).toNat]) := ⟨_, rfl⟩
                 replace H : (spec_l1Split.l0 k1 a0 a1 y197 (wrap64 (x7_1 + 1)) (wrap64 (x7_1 + 1))) = some r := by first | (rw [hy197]; with_reducible exact H) | (have H2_ := (Option.bind_some _ _).symm.trans H; rw [hy197]; with_reducible exact H2_) | (have H2_ := (Option.bind_some _ _).symm.trans H; with_reducible exact H2_) | with_reducible exact H | (rw [hy197]; exact H) | exact H
                 have Ny197 := Aside0.mk hy197
                 clear hy197
                 have H' := Aside0.mk H
                 clear H
                 have p7 : 0 ≤ (x7_1 : Int) := of_decide_eq_true zA
                 have q7 : x7_1 < (a0.size : Int) := of_decide_eq_true zA
                 have hx7 := bt_at a0 x7_1
                 replace p7 := eq_true p7
                 replace q7 := eq_true q7
                 go_wp2_with (first | ((with_reducible refine gate_builtin (b := .append) (xs := #[.tmp 20, .tmp 25]) rfl ?_); at_builtin; refine Kd.R_append Kd.string (w0 := w) w.heap.size rfl (.tmp 20) (.tmp 25) 43 9 (.string ⟨#[]⟩) 16 rfl Tryd.underlying43 info9 rfl (by decide) (by omega) u5 x5_1 (a0.extract (x6_1 : Int).toNat (x7_1 : Int).toNat) [.string (a0.extract (x6_1 : Int).toNat (x7_1 : Int).toNat)] (fun _ => True) (fun _ => False) rfl rfl ?aP (fun _ hk => hk.elim) ?aF ?aO ?aB ?aS ?aL ?_; (case aP => exact rfl); (case aB => exact zB); (case aF => exact (fun _ _ => trivial)); (case aO => exact (zR HO_5.out)); (case aS => exact (below_size zB)); (case aL => have := LMc12.out; omega); intro v198 w13 ho hb hg hat; rw [← Ny197.out] at ho; replace HB := zM (hb); have HO199 := zM (ho); clear HO_5; clear ho hb hg hat))
                 go_roundg k1
                 case measure => have := HK1.out; omega
                 case rel => exact ⟨(y197), (wrap64 (x7_1 + 1)), (wrap64 (x7_1 + 1)), (by first | rfl | (simp; done) | (simp [*]; done)), (by first | rfl | (simp; done) | (simp [*]; done)), H', ⟨by have := HK1.out; omega⟩, ⟨zR HO199.out⟩, ⟨zB⟩⟩
               · rw [if_neg c12] at H
                 exact absurd H (by simp)
             · rw [if_neg c11] at H
               exact absurd H (by simp)
           · rw [if_neg c10] at H
             exact absurd H (by simp)
         · rw [if_neg c9] at H
           exact absurd H (by simp)
       · rw [if_neg c8] at H
         have c8b0 : ((bt a0 x7_1) == a1) = false := beq_eq_false_iff_ne.mpr c8
         have c8b1 : ((bt a0 x7_1) != a1) = true := bne_iff_ne.mpr c8
         have H' := Aside0.mk H
         clear H
         have p7 : 0 ≤ (x7_1 : Int) := of_decide_eq_true zA
         have q7 : x7_1 < (a0.size : Int) := of_decide_eq_true zA
         have hx7 := bt_at a0 x7_1
         replace p7 := eq_true p7
         replace q7 := eq_true q7
         go_wp2
         go_roundg k1
         case measure => have := HK1.out; omega
         case rel => exact ⟨(x5_1), (x6_1), (wrap64 (x7_1 + 1)), (by first | rfl | (simp; done) | (simp [*]; done)), (by first | rfl | (simp; done) | (simp [*]; done)), H', ⟨by have := HK1.out; omega⟩, ⟨zR HO_5.out⟩, ⟨zB⟩⟩
     · rw [if_neg c6] at H
       exact absurd H (by simp)
   · rw [if_neg c5] at H
     have c5b0 : decide (x7_1 < (a0.size : Int)) = false := decide_eq_false c5
     clear c5
     by_cases c14 : 0 ≤ x6_1
     · rw [if_pos c14] at H
       have c14b0 := eq_true c14
       have c14b1 : decide (0 ≤ x6_1) = true := decide_eq_true c14
       clear c14
       by_cases c15 : x6_1 ≤ (a0.size : Int)
       · rw [if_pos c15] at H
         have c15b0 := eq_true c15
         have c15b1 : decide (x6_1 ≤ (a0.size : Int)) = true := decide_eq_true c15
         clear c15
         by_cases c16 : x5_1.length < 8796093022208
         · rw [if_pos c16] at H
           have LMc16 := Aside0.mk c16
           clear c16
           obtain ⟨y200, hy200⟩ : ∃ y_ : List ByteArray, y_ = (x5_1 ++ [a0.extract (x6_1 : Int).toNat a0.size]) := ⟨_, rfl⟩
           replace H : (some y200) = some r := by first | (rw [hy200]; with_reducible exact H) | (have H2_ := (Option.bind_some _ _).symm.trans H; rw [hy200]; with_reducible exact H2_) | (have H2_ := (Option.bind_some _ _).symm.trans H; with_reducible exact H2_) | with_reducible exact H | (rw [hy200]; exact H) | exact H
           have Ny200 := Aside0.mk hy200
           clear hy200
           obtain rfl := Option.some.inj H
           go_wp2_with (first | ((with_reducible refine gate_builtin (b := .append) (xs := #[.tmp 29, .tmp 33]) rfl ?_); at_builtin; refine Kd.R_append Kd.string (w0 := w) w.heap.size rfl (.tmp 29) (.tmp 33) 43 9 (.string ⟨#[]⟩) 16 rfl Tryd.underlying43 info9 rfl (by decide) (by omega) u5 x5_1 (a0.extract (x6_1 : Int).toNat a0.size) [.string (a0.extract (x6_1 : Int).toNat a0.size)] (fun _ => True) (fun _ => False) rfl rfl ?aP (fun _ hk => hk.elim) ?aF ?aO ?aB ?aS ?aL ?_; (case aP => exact rfl); (case aB => exact zB); (case aF => exact (fun _ _ => trivial)); (case aO => exact (zR HO_5.out)); (case aS => exact (below_size zB)); (case aL => have := LMc16.out; omega); intro v201 w17 ho hb hg hat; rw [← Ny200.out] at ho; replace HB := zM (hb); have HO202 := zM (ho); clear HO_5; clear ho hb hg hat))
           go_ret
           exact ⟨_, by first | rfl | (simp [errW_none, errW_some] <;> rfl) | (simp [*, errW_none, errW_some] <;> rfl), by (with_reducible repeat (first | apply Kd.R_alloc | apply Kd.R_drewN | apply Kd.R_drew)); exact HO202.out, zB⟩
         · rw [if_neg c16] at H
           exact absurd H (by simp)
       · rw [if_neg c15] at H
         exact absurd H (by simp)
     · rw [if_neg c14] at H
       exact absurd H (by simp)

/-! ### spec_l1Read: function 22 -/
mutual
def spec_l1Read.j0 : Nat → ByteArray → ByteArray → Bool → Option (Int × Bool)
 | 0, _, _, _ => none
 | k + 1, x0, x4, x15 => if x15 = true then (if 1 ≤ (x4.size : Int) then (spec_l1Read.j1 k x0 (x4.extract 1 x4.size)) else (none)) else (spec_l1Read.j1 k x0 x4)
def spec_l1Read.j1 : Nat → ByteArray → ByteArray → Option (Int × Bool)
 | 0, _, _ => none
 | k + 1, x0, x4 => (spec_l1In.f (x4.size : Int) 1 6).bind fun t203 => (if t203 = true then (spec_l1Read.l0 k x0 x4 0 0) else (some (0, false)))
def spec_l1Read.l0 : Nat → ByteArray → ByteArray → Int → Int → Option (Int × Bool)
 | 0, _, _, _, _ => none
 | k + 1, x0, x4, x5, x6 => if x6 < (x4.size : Int) then (if 0 ≤ x6 then (if (bt x4 x6) < 48 then (some (0, false)) else (if (bt x4 x6) > 57 then (some (0, false)) else (spec_l1Read.l0 k x0 x4 (wrap64 ((wrap64 (10 * x5)) + (((bt x4 x6) - 48) % 256))) (wrap64 (x6 + 1))))) else (none)) else (if (x4.size : Int) < (x0.size : Int) then ((spec_l1Num.f k (wrap64 (-x5))).bind fun t204 => (if t204.toList = x0.toList then (some (wrap64 (-x5), true)) else (some (0, false)))) else ((spec_l1Num.f k x5).bind fun t205 => (if t205.toList = x0.toList then (some (x5, true)) else (some (0, false)))))
end
def spec_l1Read.f (k : Nat) (a0 : ByteArray) : Option (Int × Bool) := if (a0.size : Int) > 1 then (if 0 < (a0.size : Int) then (spec_l1Read.j0 k a0 a0 ((bt a0 0) == 45)) else (none)) else (spec_l1Read.j0 k a0 a0 false)
set_option maxHeartbeats 8000000 in
set_option maxRecDepth 100000 in
theorem spec_l1Read.calls (k : Nat) (a0 : ByteArray) (r1 : Int) (r2 : Bool) (w : World) (h : spec_l1Read.f k a0 = some (r1, r2)) :
 Calls Tryd.prog 22 #[.string a0] w fun e w' => e = .returned (.tuple #[.int .i64 r1, .bool r2]) ∧ Below w.heap.size w w' := by
 have HB := zM (Below.refl w.heap.size w)
 have H : (if (a0.size : Int) > 1 then (if 0 < (a0.size : Int) then (spec_l1Read.j0 k a0 a0 ((bt a0 0) == 45)) else (none)) else (spec_l1Read.j0 k a0 a0 false)) = some (r1, r2) := h
 clear h
 have HC2 := Aside0.mk H
 clear H
 go_enter Tryd.func22, Tryd.ntmps22
 go_upto_region 2 with (fail)
 go_cut [15] (fun v15 wc => ∃ (kq : Nat) (x15_1 : Bool), v15 = .bool x15_1 ∧ Aside0 (spec_l1Read.j0 kq a0 a0 x15_1 = some (r1, r2)) ∧ Aside0 (kq ≤ k) ∧ Aside0 (Below w.heap.size w wc))
 case first =>
  have H := HC2.out
  clear HC2
  by_cases c3 : (a0.size : Int) > 1
  · rw [if_pos c3] at H
    have c3b0 : decide (1 < (a0.size : Int)) = true := decide_eq_true c3
    have c3b1 : decide (1 < a0.size) = true := decide_eq_true (by omega)
    clear c3
    (first | rw [c3b0] | (simp only [i64_w, i32_w]; rw [c3b0]) | skip)
    by_cases c4 : 0 < (a0.size : Int)
    · rw [if_pos c4] at H
      have c4b0 := decide_eq_true c4
      have c4b1 : decide (0 < a0.size) = true := decide_eq_true (by omega)
      clear c4
      have H' := Aside0.mk H
      clear H
      have p5 : 0 ≤ (0 : Int) := (by omega)
      have q5 : 0 < a0.size := (by have : (0 : Int) < (a0.size : Int) := of_decide_eq_true zA; omega)
      have hx5 : ∀ h : 0 < a0.size, ((a0[0]'h).toNat : Int) = bt a0 0 := bt_at a0 0
      clear p5
      have qi5 : (0 < (a0.size : Int)) = True := eq_true (of_decide_eq_true zA)
      replace q5 := eq_true q5
      go_wp2
      go_meet
      case rel => exact ⟨_, (((bt a0 0) == 45)), (by first | rfl | (simp; done) | (simp [*]; done)), H', ⟨by first | omega | exact Nat.le_refl _⟩, ⟨zB⟩⟩
    · rw [if_neg c4] at H
      exact absurd H (by simp)
  · rw [if_neg c3] at H
    have c3b0 : decide (1 < (a0.size : Int)) = false := decide_eq_false c3
    have c3b1 : decide (1 < a0.size) = false := decide_eq_false (by omega)
    clear c3
    (first | rw [c3b0] | (simp only [i64_w, i32_w]; rw [c3b0]) | skip)
    have H' := Aside0.mk H
    clear H
    go_wp2
    go_meet
    case rel => exact ⟨_, (false), (by first | rfl | (simp; done) | (simp [*]; done)), H', ⟨by first | omega | exact Nat.le_refl _⟩, ⟨zB⟩⟩
 case rest =>
  clear HC2
  try clear c2
  try clear p2
  try clear c3
  try clear c3b0
  try clear c3b1
  try clear c4
  try clear c4b0
  try clear c4b1
  try clear p5
  try clear q5
  try clear hx5
  try clear qi5
  try clear p5
  try clear q5
  obtain ⟨kq, x15_1, rfl, HA, HJ1, HB⟩ := hcut
  cases kq with
  | zero => exact absurd HA.out (by simp [spec_l1Read.j0])
  | succ kj1 =>
   have H := HA.out
   clear HA
   simp only [spec_l1Read.j0] at H
   have HC6 := Aside0.mk H
   clear H
   go_upto_if 15 with (fail)
   go_cut [4] (fun v4 wc => ∃ (kq : Nat) (x4_5 : ByteArray), v4 = .string x4_5 ∧ Aside0 (spec_l1Read.j1 kq a0 x4_5 = some (r1, r2)) ∧ Aside0 (kq ≤ kj1) ∧ Aside0 (Below w.heap.size w wc))
   case first =>
    have H := HC6.out
    clear HC6
    by_cases c7 : x15_1 = true
    · subst c7
      have H1 : (if 1 ≤ (a0.size : Int) then (spec_l1Read.j1 kj1 a0 (a0.extract 1 a0.size)) else (none)) = some (r1, r2) := by rw [if_pos rfl] at H; exact H
      clear H
      have H := H1
      clear H1
      by_cases c8 : 1 ≤ (a0.size : Int)
      · rw [if_pos c8] at H
        have c8b0 := eq_true c8
        have c8b1 : decide (1 ≤ (a0.size : Int)) = true := decide_eq_true c8
        clear c8
        have H' := Aside0.mk H
        clear H
        go_wp2
        go_meet
        case rel => exact ⟨_, (a0.extract 1 a0.size), (by first | rfl | (simp; done) | (simp [*]; done)), H', ⟨by have := HJ1.out; first | omega | exact Nat.le_refl _⟩, ⟨zB⟩⟩
      · rw [if_neg c8] at H
        exact absurd H (by simp)
    · replace c7 := Bool.eq_false_iff.mpr c7
      subst c7
      have H1 : (spec_l1Read.j1 kj1 a0 a0) = some (r1, r2) := by rw [if_neg (show ¬ (false = true) by decide)] at H; exact H
      clear H
      have H := H1
      clear H1
      have H' := Aside0.mk H
      clear H
      go_wp2
      go_meet
      case rel => exact ⟨_, (a0), (by first | rfl | (simp; done) | (simp [*]; done)), H', ⟨by have := HJ1.out; first | omega | exact Nat.le_refl _⟩, ⟨zB⟩⟩
   case rest =>
    clear HC6
    try clear c2
    try clear p2
    try clear c3
    try clear c3b0
    try clear c3b1
    try clear c4
    try clear c4b0
    try clear c4b1
    try clear p5
    try clear q5
    try clear hx5
    try clear qi5
    try clear c7
    try clear c8
    try clear c8b0
    try clear c8b1
    try clear p2
    try clear p5
    try clear q5
    obtain ⟨kq, x4_5, rfl, HA, HJ5, HB⟩ := hcut
    cases kq with
    | zero => exact absurd HA.out (by simp [spec_l1Read.j1])
    | succ kj5 =>
     have H := HA.out
     clear HA
     simp only [spec_l1Read.j1] at H
     replace H := Option.bind_eq_some_iff.mp H
     obtain ⟨t203, A90, H⟩ := H
     replace H : (if t203 = true then (spec_l1Read.l0 kj5 a0 x4_5 0 0) else (some (0, false))) = some (r1, r2) := H
     have A9 := Aside0.mk A90
     clear A90
     by_cases c10 : t203 = true
     · subst c10
       have H1 : (spec_l1Read.l0 kj5 a0 x4_5 0 0) = some (r1, r2) := by rw [if_pos rfl] at H; exact H
       clear H
       have H := H1
       clear H1
       have H' := Aside0.mk H
       clear H
       go_wp2_with (first | ((with_reducible refine gate_callee (f := 29) rfl ?_); refine zc 20 Tryd.func29 #[.int .i64 (x4_5.size : Int), .int .i64 1, .int .i64 6] ?_; (with_reducible refine (spec_l1In.calls (x4_5.size : Int) 1 6 true _ A9.out).mono ?_); rintro e w' ⟨rfl, ⟨nd, rfl⟩⟩; refine ⟨_, rfl, ?_⟩))
       go_loopg [5, 6] kj5 (fun kq v5 v6 w' => ∃ (x5_3 : Int) (x6_3 : Int), v5 = .int .i64 x5_3 ∧ v6 = .int .i64 x6_3 ∧ Aside0 (spec_l1Read.l0 kq a0 x4_5 x5_3 x6_3 = some (r1, r2)) ∧ Aside0 (kq ≤ kj5) ∧ Aside0 (Below w.heap.size w w'))
       case atStart => exact ⟨(0), (0), (by first | rfl | (simp; done) | (simp [*]; done)), (by first | rfl | (simp; done) | (simp [*]; done)), H', ⟨Nat.le_refl _⟩, ⟨zB⟩⟩
       case round =>
        clear H'
        try clear c1
        try clear c2
        try clear p2
        try clear c3
        try clear c3b0
        try clear c3b1
        try clear c4
        try clear c4b0
        try clear c4b1
        try clear p5
        try clear q5
        try clear hx5
        try clear qi5
        try clear c7
        try clear c8
        try clear c8b0
        try clear c8b1
        try clear c10
        try clear p2
        try clear p5
        try clear q5
        obtain ⟨x5_3, x6_3, rfl, rfl, HA, HK3, HB⟩ := hrel
        cases gk with
        | zero => exact absurd HA.out (by simp [spec_l1Read.l0])
        | succ k3 =>
         have H := HA.out
         clear HA
         simp only [spec_l1Read.l0] at H
         by_cases c11 : x6_3 < (x4_5.size : Int)
         · rw [if_pos c11] at H
           have c11b0 := decide_eq_true c11
           clear c11
           by_cases c12 : 0 ≤ x6_3
           · rw [if_pos c12] at H
             have c12b0 := decide_eq_true c12
             clear c12
             by_cases c14 : (bt x4_5 x6_3) < 48
             · rw [if_pos c14] at H
               have c14b0 := decide_eq_true c14
               clear c14
               simp only [Option.some.injEq, Prod.mk.injEq] at H
               obtain ⟨rfl, rfl⟩ := H
               have p13 : 0 ≤ (x6_3 : Int) := of_decide_eq_true zA
               have q13 : x6_3 < (x4_5.size : Int) := of_decide_eq_true zA
               have hx13 := bt_at x4_5 x6_3
               replace p13 := eq_true p13
               replace q13 := eq_true q13
               go_wp2
               go_ret2
               exact ⟨by first | rfl | (simp [errW_none, errW_some] <;> rfl) | (simp [*, errW_none, errW_some] <;> rfl), zB⟩
             · rw [if_neg c14] at H
               have c14b0 : decide ((bt x4_5 x6_3) < 48) = false := decide_eq_false c14
               clear c14
               by_cases c16 : (bt x4_5 x6_3) > 57
               · rw [if_pos c16] at H
                 have c16b0 : decide (57 < (bt x4_5 x6_3)) = true := decide_eq_true c16
                 clear c16
                 simp only [Option.some.injEq, Prod.mk.injEq] at H
                 obtain ⟨rfl, rfl⟩ := H
                 have p13 : 0 ≤ (x6_3 : Int) := of_decide_eq_true zA
                 have q13 : x6_3 < (x4_5.size : Int) := of_decide_eq_true zA
                 have hx13 := bt_at x4_5 x6_3
                 replace p13 := eq_true p13
                 replace q13 := eq_true q13
                 have p15 : 0 ≤ (x6_3 : Int) := of_decide_eq_true zA
                 have q15 : x6_3 < (x4_5.size : Int) := of_decide_eq_true zA
                 have hx15 := bt_at x4_5 x6_3
                 replace p15 := eq_true p15
                 replace q15 := eq_true q15
                 go_wp2
                 go_ret2
                 exact ⟨by first | rfl | (simp [errW_none, errW_some] <;> rfl) | (simp [*, errW_none, errW_some] <;> rfl), zB⟩
               · rw [if_neg c16] at H
                 have c16b0 : decide (57 < (bt x4_5 x6_3)) = false := decide_eq_false c16
                 clear c16
                 have H' := Aside0.mk H
                 clear H
                 have p13 : 0 ≤ (x6_3 : Int) := of_decide_eq_true zA
                 have q13 : x6_3 < (x4_5.size : Int) := of_decide_eq_true zA
                 have hx13 := bt_at x4_5 x6_3
                 replace p13 := eq_true p13
                 replace q13 := eq_true q13
                 have p15 : 0 ≤ (x6_3 : Int) := of_decide_eq_true zA
                 have q15 : x6_3 < (x4_5.size : Int) := of_decide_eq_true zA
                 have hx15 := bt_at x4_5 x6_3
                 replace p15 := eq_true p15
                 replace q15 := eq_true q15
                 have p17 : 0 ≤ (x6_3 : Int) := of_decide_eq_true zA
                 have q17 : x6_3 < (x4_5.size : Int) := of_decide_eq_true zA
                 have hx17 := bt_at x4_5 x6_3
                 replace p17 := eq_true p17
                 replace q17 := eq_true q17
                 go_wp2
                 go_roundg k3
                 case measure => have := HJ1.out; have := HJ5.out; have := HK3.out; omega
                 case rel => exact ⟨(wrap64 ((wrap64 (10 * x5_3)) + (((bt x4_5 x6_3) - 48) % 256))), (wrap64 (x6_3 + 1)), (by first | rfl | (simp; done) | (simp [*]; done)), (by first | rfl | (simp; done) | (simp [*]; done)), H', ⟨by have := HJ1.out; have := HJ5.out; have := HK3.out; omega⟩, ⟨zB⟩⟩
           · rw [if_neg c12] at H
             exact absurd H (by simp)
         · rw [if_neg c11] at H
           have c11b0 : decide (x6_3 < (x4_5.size : Int)) = false := decide_eq_false c11
           clear c11
           by_cases c18 : (x4_5.size : Int) < (a0.size : Int)
           · rw [if_pos c18] at H
             have c18b0 := decide_eq_true c18
             have c18b1 : decide (x4_5.size < a0.size) = true := decide_eq_true (Int.ofNat_lt.mp c18)
             clear c18
             replace H := Option.bind_eq_some_iff.mp H
             obtain ⟨t204, A190, H⟩ := H
             replace H : (if t204.toList = a0.toList then (some (wrap64 (-x5_3), true)) else (some (0, false))) = some (r1, r2) := H
             have A19 := Aside0.mk A190
             clear A190
             by_cases c20 : t204.toList = a0.toList
             · rw [if_pos c20] at H
               have c20b0 : (t204.toList == a0.toList) = true := beq_iff_eq.mpr c20
               have c20b1 : (t204.toList != a0.toList) = false := bne_eq_false_iff_eq.mpr c20
               clear c20
               simp only [Option.some.injEq, Prod.mk.injEq] at H
               obtain ⟨rfl, rfl⟩ := H
               go_wp2_with (first | ((with_reducible refine gate_callee (f := 31) rfl ?_); refine zc 54 Tryd.func31 #[.int .i64 (wrap64 (-x5_3))] ?_; (with_reducible refine (spec_l1Num.calls k3 (wrap64 (-x5_3)) t204 _ A19.out).mono ?_); rintro e w21 ⟨rfl, hb⟩; refine ⟨_, rfl, ?_⟩; replace HB := zM (below_step zB hb); (try clear hb); (try clear hb2); (try clear hk); (try clear hi)))
               go_ret2
               exact ⟨by first | rfl | (simp [errW_none, errW_some] <;> rfl) | (simp [*, errW_none, errW_some] <;> rfl), zB⟩
             · rw [if_neg c20] at H
               have c20b0 : (t204.toList == a0.toList) = false := beq_eq_false_iff_ne.mpr c20
               have c20b1 : (t204.toList != a0.toList) = true := bne_iff_ne.mpr c20
               simp only [Option.some.injEq, Prod.mk.injEq] at H
               obtain ⟨rfl, rfl⟩ := H
               go_wp2_with (first | ((with_reducible refine gate_callee (f := 31) rfl ?_); refine zc 54 Tryd.func31 #[.int .i64 (wrap64 (-x5_3))] ?_; (with_reducible refine (spec_l1Num.calls k3 (wrap64 (-x5_3)) t204 _ A19.out).mono ?_); rintro e w22 ⟨rfl, hb⟩; refine ⟨_, rfl, ?_⟩; replace HB := zM (below_step zB hb); (try clear hb); (try clear hb2); (try clear hk); (try clear hi)))
               go_ret2
               exact ⟨by first | rfl | (simp [errW_none, errW_some] <;> rfl) | (simp [*, errW_none, errW_some] <;> rfl), zB⟩
           · rw [if_neg c18] at H
             have c18b0 : decide ((x4_5.size : Int) < (a0.size : Int)) = false := decide_eq_false c18
             have c18b1 : decide (x4_5.size < a0.size) = false := decide_eq_false (fun h => c18 (Int.ofNat_lt.mpr h))
             clear c18
             replace H := Option.bind_eq_some_iff.mp H
             obtain ⟨t205, A230, H⟩ := H
             replace H : (if t205.toList = a0.toList then (some (x5_3, true)) else (some (0, false))) = some (r1, r2) := H
             have A23 := Aside0.mk A230
             clear A230
             by_cases c24 : t205.toList = a0.toList
             · rw [if_pos c24] at H
               have c24b0 : (t205.toList == a0.toList) = true := beq_iff_eq.mpr c24
               have c24b1 : (t205.toList != a0.toList) = false := bne_eq_false_iff_eq.mpr c24
               clear c24
               simp only [Option.some.injEq, Prod.mk.injEq] at H
               obtain ⟨rfl, rfl⟩ := H
               go_wp2_with (first | ((with_reducible refine gate_callee (f := 31) rfl ?_); refine zc 54 Tryd.func31 #[.int .i64 x5_3] ?_; (with_reducible refine (spec_l1Num.calls k3 x5_3 t205 _ A23.out).mono ?_); rintro e w25 ⟨rfl, hb⟩; refine ⟨_, rfl, ?_⟩; replace HB := zM (below_step zB hb); (try clear hb); (try clear hb2); (try clear hk); (try clear hi)))
               go_ret2
               exact ⟨by first | rfl | (simp [errW_none, errW_some] <;> rfl) | (simp [*, errW_none, errW_some] <;> rfl), zB⟩
             · rw [if_neg c24] at H
               have c24b0 : (t205.toList == a0.toList) = false := beq_eq_false_iff_ne.mpr c24
               have c24b1 : (t205.toList != a0.toList) = true := bne_iff_ne.mpr c24
               simp only [Option.some.injEq, Prod.mk.injEq] at H
               obtain ⟨rfl, rfl⟩ := H
               go_wp2_with (first | ((with_reducible refine gate_callee (f := 31) rfl ?_); refine zc 54 Tryd.func31 #[.int .i64 x5_3] ?_; (with_reducible refine (spec_l1Num.calls k3 x5_3 t205 _ A23.out).mono ?_); rintro e w26 ⟨rfl, hb⟩; refine ⟨_, rfl, ?_⟩; replace HB := zM (below_step zB hb); (try clear hb); (try clear hb2); (try clear hk); (try clear hi)))
               go_ret2
               exact ⟨by first | rfl | (simp [errW_none, errW_some] <;> rfl) | (simp [*, errW_none, errW_some] <;> rfl), zB⟩
     · replace c10 := Bool.eq_false_iff.mpr c10
       subst c10
       have H1 : (some (0, false)) = some (r1, r2) := by rw [if_neg (show ¬ (false = true) by decide)] at H; exact H
       clear H
       have H := H1
       clear H1
       simp only [Option.some.injEq, Prod.mk.injEq] at H
       obtain ⟨rfl, rfl⟩ := H
       go_wp2_with (first | ((with_reducible refine gate_callee (f := 29) rfl ?_); refine zc 20 Tryd.func29 #[.int .i64 (x4_5.size : Int), .int .i64 1, .int .i64 6] ?_; (with_reducible refine (spec_l1In.calls (x4_5.size : Int) 1 6 false _ A9.out).mono ?_); rintro e w' ⟨rfl, ⟨nd, rfl⟩⟩; refine ⟨_, rfl, ?_⟩))
       go_ret2
       exact ⟨by first | rfl | (simp [errW_none, errW_some] <;> rfl) | (simp [*, errW_none, errW_some] <;> rfl), zB⟩

/-! ### spec_l2ReadEdge: function 23 -/
def spec_l2ReadEdge.f (k : Nat) (a0 : ByteArray) : Option (Int × Int × Bool) := (spec_l1Split.f k a0 45).bind fun t207 => (if (t207.length : Int) = 2 then (if 0 < (t207.length : Int) then ((spec_l1Read.f k (rdOf ByteArray.empty t207 0)).bind fun bt211 => (if 1 < (t207.length : Int) then ((spec_l1Read.f k (rdOf ByteArray.empty t207 1)).bind fun bt214 => (if bt211.2 = true then (some (bt211.1, bt214.1, bt214.2)) else (some (bt211.1, bt214.1, false)))) else (none))) else (none)) else (some (0, 0, false)))
set_option maxHeartbeats 8000000 in
set_option maxRecDepth 100000 in
theorem spec_l2ReadEdge.calls (k : Nat) (a0 : ByteArray) (r1 : Int) (r2 : Int) (r3 : Bool) (w : World) (h : spec_l2ReadEdge.f k a0 = some (r1, r2, r3)) :
 Calls Tryd.prog 23 #[.string a0] w fun e w' => e = .returned (.tuple #[.agg #[.int .i64 r1, .int .i64 r2], .bool r3]) ∧ Below w.heap.size w w' := by
 have hu41 := Tryd.underlying41
 have HB := zM (Below.refl w.heap.size w)
 have H : ((spec_l1Split.f k a0 45).bind fun t207 => (if (t207.length : Int) = 2 then (if 0 < (t207.length : Int) then ((spec_l1Read.f k (rdOf ByteArray.empty t207 0)).bind fun bt211 => (if 1 < (t207.length : Int) then ((spec_l1Read.f k (rdOf ByteArray.empty t207 1)).bind fun bt214 => (if bt211.2 = true then (some (bt211.1, bt214.1, bt214.2)) else (some (bt211.1, bt214.1, false)))) else (none))) else (none)) else (some (0, 0, false)))) = some (r1, r2, r3) := h
 clear h
 replace H := Option.bind_eq_some_iff.mp H
 obtain ⟨t207, A20, H⟩ := H
 replace H : (if (t207.length : Int) = 2 then (if 0 < (t207.length : Int) then ((spec_l1Read.f k (rdOf ByteArray.empty t207 0)).bind fun bt211 => (if 1 < (t207.length : Int) then ((spec_l1Read.f k (rdOf ByteArray.empty t207 1)).bind fun bt214 => (if bt211.2 = true then (some (bt211.1, bt214.1, bt214.2)) else (some (bt211.1, bt214.1, false)))) else (none))) else (none)) else (some (0, 0, false))) = some (r1, r2, r3) := H
 have A2 := Aside0.mk A20
 clear A20
 by_cases c3 : (t207.length : Int) = 2
 · rw [if_pos c3] at H
   have c3b0 : ((t207.length : Int) == 2) = true := beq_iff_eq.mpr c3
   have c3b1 : ((t207.length : Int) != 2) = false := bne_eq_false_iff_eq.mpr c3
   clear c3
   by_cases c4 : 0 < (t207.length : Int)
   · rw [if_pos c4] at H
     have c4b0 := decide_eq_true c4
     have c4b1 : decide (0 < t207.length) = true := decide_eq_true (by omega)
     clear c4
     replace H := Option.bind_eq_some_iff.mp H
     obtain ⟨⟨t211, t212⟩, A50, H⟩ := H
     replace H : (if 1 < (t207.length : Int) then ((spec_l1Read.f k (rdOf ByteArray.empty t207 1)).bind fun bt214 => (if t212 = true then (some (t211, bt214.1, bt214.2)) else (some (t211, bt214.1, false)))) else (none)) = some (r1, r2, r3) := H
     have A5 := Aside0.mk A50
     clear A50
     by_cases c6 : 1 < (t207.length : Int)
     · rw [if_pos c6] at H
       have c6b0 := decide_eq_true c6
       have c6b1 : decide (1 < t207.length) = true := decide_eq_true (by omega)
       clear c6
       replace H := Option.bind_eq_some_iff.mp H
       obtain ⟨⟨t214, t215⟩, A70, H⟩ := H
       replace H : (if t212 = true then (some (t211, t214, t215)) else (some (t211, t214, false))) = some (r1, r2, r3) := H
       have A7 := Aside0.mk A70
       clear A70
       by_cases c8 : t212 = true
       · subst c8
         have H1 : (some (t211, t214, t215)) = some (r1, r2, r3) := by rw [if_pos rfl] at H; exact H
         clear H
         have H := H1
         clear H1
         simp only [Option.some.injEq, Prod.mk.injEq] at H
         obtain ⟨rfl, rfl, rfl⟩ := H
         go_enter Tryd.func23, Tryd.ntmps23
         go_wp2_with (first | ((with_reducible refine gate_dst (N := 2) rfl ?_); refine zb (w := w) 2 #[.int .i64 0, .int .i64 0] 41 zB ?_; clear HB; intro gb206 w9 HB BK206 GW206; have GE206 := GW206) | ((with_reducible refine gate_callee (f := 21) rfl ?_); refine zc 10 Tryd.func21 #[.string a0, .int .u8 45] ?_; (with_reducible refine (spec_l1Split.calls k a0 45 t207 _ A2.out).mono ?_); rintro e w10 ⟨v208, rfl, ho0, hb⟩; refine ⟨_, rfl, ?_⟩; have HO209 := zM (Kd.R_lower ho0 (below_size zB)); replace BK206 := zM (blk_below (g := gb206) (o := .cells #[.int .i64 0, .int .i64 0] 41 (0, 0)) (zK BK206.out) hb); replace HB := zM (below_step zB hb); (try clear hb); (try clear hb2); (try clear hk); (try clear hi); (try clear ho0); obtain ⟨Ao11, co11, eo11⟩ := Kd.R_slice HO209.out; subst eo11; have p210 : 0 ≤ (0 : Int) := (by omega); have q210 : 0 < (t207.length : Int) := of_decide_eq_true zA; obtain ⟨ad210, e210, hx210_0⟩ := Kd.at_string (Kd.R_reads' HO209.out).2.2 0 p210 q210; cases e210; have qi210 : (0 < t207.length) = True := eq_true (by omega); (try rw [show ((0 : Int)).toNat = 0 from rfl] at hx210_0); (try rw [Addr.add_zero'] at hx210_0); replace p210 := eq_true p210; replace q210 := eq_true q210) | ((with_reducible refine gate_callee (f := 22) rfl ?_); refine zc 19 Tryd.func22 #[.string (rdOf ByteArray.empty t207 0)] ?_; (with_reducible refine (spec_l1Read.calls k (rdOf ByteArray.empty t207 0) t211 true _ A5.out).mono ?_); rintro e w12 ⟨rfl, hb⟩; refine ⟨_, rfl, ?_⟩; replace HO209 := zM (Kd.R_below (zR HO209.out) hb); replace BK206 := zM (blk_below (g := gb206) (o := .cells #[.int .i64 0, .int .i64 0] 41 (0, 0)) (zK BK206.out) hb); replace HB := zM (below_step zB hb); (try clear hb); (try clear hb2); (try clear hk); (try clear hi); have p213 : 0 ≤ (1 : Int) := (by omega); have q213 : 1 < (t207.length : Int) := of_decide_eq_true zA; obtain ⟨ad213, e213, hx213_0⟩ := Kd.at_string (Kd.R_reads' HO209.out).2.2 1 p213 q213; obtain rfl : ad210 = ad213 := (by injection e213); (try simp only [show (1 : Int).toNat = 1 from rfl, Nat.reduceMul, Nat.reduceEqDiff, Go.Addr.add, ↓reduceIte] at hx213_0); have qi213 : (1 < t207.length) = True := eq_true (by omega); (try rw [show ((1 : Int)).toNat = 1 from rfl] at hx213_0); replace p213 := eq_true p213; replace q213 := eq_true q213) | ((with_reducible refine gate_callee (f := 22) rfl ?_); refine zc 26 Tryd.func22 #[.string (rdOf ByteArray.empty t207 1)] ?_; (with_reducible refine (spec_l1Read.calls k (rdOf ByteArray.empty t207 1) t214 t215 _ A7.out).mono ?_); rintro e w13 ⟨rfl, hb⟩; refine ⟨_, rfl, ?_⟩; replace HO209 := zM (Kd.R_below (zR HO209.out) hb); replace BK206 := zM (blk_below (g := gb206) (o := .cells #[.int .i64 0, .int .i64 0] 41 (0, 0)) (zK BK206.out) hb); replace HB := zM (below_step zB hb); (try clear hb); (try clear hb2); (try clear hk); (try clear hi); have hcz14_0 := zy BK206 0; have hcz14_1 := zy BK206 1; have hfz14_0 := blk_frozen BK206.out 0; have hfz14_1 := blk_frozen BK206.out 1))
         refine bodyPost_ret (results_ct rfl _ _ gb206 41 #[.int .i64 t211, .int .i64 t214] (0, 0) _ rfl (by (with_reducible repeat (first | refine blk_drewN ?_ _ | refine blk_drew ?_ | refine blk_alloc ?_ _)); refine blk_put (cs := #[.int .i64 t211, .int .i64 0]) ?_ 1 _ rfl; (with_reducible repeat (first | refine blk_drewN ?_ _ | refine blk_drew ?_ | refine blk_alloc ?_ _)); refine blk_put (cs := #[.int .i64 0, .int .i64 0]) ?_ 0 _ rfl; (with_reducible repeat (first | refine blk_drewN ?_ _ | refine blk_drew ?_ | refine blk_alloc ?_ _)); exact BK206.out) Tryd.underlying41 rfl (by kernel_rfl)) rfl ?_
         exact ⟨by first | rfl | (simp [errW_none, errW_some] <;> rfl) | (simp [*, errW_none, errW_some] <;> rfl), zB⟩
       · replace c8 := Bool.eq_false_iff.mpr c8
         subst c8
         have H1 : (some (t211, t214, false)) = some (r1, r2, r3) := by rw [if_neg (show ¬ (false = true) by decide)] at H; exact H
         clear H
         have H := H1
         clear H1
         simp only [Option.some.injEq, Prod.mk.injEq] at H
         obtain ⟨rfl, rfl, rfl⟩ := H
         go_enter Tryd.func23, Tryd.ntmps23
         go_wp2_with (first | ((with_reducible refine gate_dst (N := 2) rfl ?_); refine zb (w := w) 2 #[.int .i64 0, .int .i64 0] 41 zB ?_; clear HB; intro gb206 w15 HB BK206 GW206; have GE206 := GW206) | ((with_reducible refine gate_callee (f := 21) rfl ?_); refine zc 10 Tryd.func21 #[.string a0, .int .u8 45] ?_; (with_reducible refine (spec_l1Split.calls k a0 45 t207 _ A2.out).mono ?_); rintro e w16 ⟨v208, rfl, ho0, hb⟩; refine ⟨_, rfl, ?_⟩; have HO209 := zM (Kd.R_lower ho0 (below_size zB)); replace BK206 := zM (blk_below (g := gb206) (o := .cells #[.int .i64 0, .int .i64 0] 41 (0, 0)) (zK BK206.out) hb); replace HB := zM (below_step zB hb); (try clear hb); (try clear hb2); (try clear hk); (try clear hi); (try clear ho0); obtain ⟨Ao17, co17, eo17⟩ := Kd.R_slice HO209.out; subst eo17; have p210 : 0 ≤ (0 : Int) := (by omega); have q210 : 0 < (t207.length : Int) := of_decide_eq_true zA; obtain ⟨ad210, e210, hx210_0⟩ := Kd.at_string (Kd.R_reads' HO209.out).2.2 0 p210 q210; cases e210; have qi210 : (0 < t207.length) = True := eq_true (by omega); (try rw [show ((0 : Int)).toNat = 0 from rfl] at hx210_0); (try rw [Addr.add_zero'] at hx210_0); replace p210 := eq_true p210; replace q210 := eq_true q210) | ((with_reducible refine gate_callee (f := 22) rfl ?_); refine zc 19 Tryd.func22 #[.string (rdOf ByteArray.empty t207 0)] ?_; (with_reducible refine (spec_l1Read.calls k (rdOf ByteArray.empty t207 0) t211 false _ A5.out).mono ?_); rintro e w18 ⟨rfl, hb⟩; refine ⟨_, rfl, ?_⟩; replace HO209 := zM (Kd.R_below (zR HO209.out) hb); replace BK206 := zM (blk_below (g := gb206) (o := .cells #[.int .i64 0, .int .i64 0] 41 (0, 0)) (zK BK206.out) hb); replace HB := zM (below_step zB hb); (try clear hb); (try clear hb2); (try clear hk); (try clear hi); have p213 : 0 ≤ (1 : Int) := (by omega); have q213 : 1 < (t207.length : Int) := of_decide_eq_true zA; obtain ⟨ad213, e213, hx213_0⟩ := Kd.at_string (Kd.R_reads' HO209.out).2.2 1 p213 q213; obtain rfl : ad210 = ad213 := (by injection e213); (try simp only [show (1 : Int).toNat = 1 from rfl, Nat.reduceMul, Nat.reduceEqDiff, Go.Addr.add, ↓reduceIte] at hx213_0); have qi213 : (1 < t207.length) = True := eq_true (by omega); (try rw [show ((1 : Int)).toNat = 1 from rfl] at hx213_0); replace p213 := eq_true p213; replace q213 := eq_true q213) | ((with_reducible refine gate_callee (f := 22) rfl ?_); refine zc 26 Tryd.func22 #[.string (rdOf ByteArray.empty t207 1)] ?_; (with_reducible refine (spec_l1Read.calls k (rdOf ByteArray.empty t207 1) t214 t215 _ A7.out).mono ?_); rintro e w19 ⟨rfl, hb⟩; refine ⟨_, rfl, ?_⟩; replace HO209 := zM (Kd.R_below (zR HO209.out) hb); replace BK206 := zM (blk_below (g := gb206) (o := .cells #[.int .i64 0, .int .i64 0] 41 (0, 0)) (zK BK206.out) hb); replace HB := zM (below_step zB hb); (try clear hb); (try clear hb2); (try clear hk); (try clear hi); have hcz20_0 := zy BK206 0; have hcz20_1 := zy BK206 1; have hfz20_0 := blk_frozen BK206.out 0; have hfz20_1 := blk_frozen BK206.out 1))
         refine bodyPost_ret (results_ct rfl _ _ gb206 41 #[.int .i64 t211, .int .i64 t214] (0, 0) _ rfl (by (with_reducible repeat (first | refine blk_drewN ?_ _ | refine blk_drew ?_ | refine blk_alloc ?_ _)); refine blk_put (cs := #[.int .i64 t211, .int .i64 0]) ?_ 1 _ rfl; (with_reducible repeat (first | refine blk_drewN ?_ _ | refine blk_drew ?_ | refine blk_alloc ?_ _)); refine blk_put (cs := #[.int .i64 0, .int .i64 0]) ?_ 0 _ rfl; (with_reducible repeat (first | refine blk_drewN ?_ _ | refine blk_drew ?_ | refine blk_alloc ?_ _)); exact BK206.out) Tryd.underlying41 rfl (by kernel_rfl)) rfl ?_
         exact ⟨by first | rfl | (simp [errW_none, errW_some] <;> rfl) | (simp [*, errW_none, errW_some] <;> rfl), zB⟩
     · rw [if_neg c6] at H
       exact absurd H (by simp)
   · rw [if_neg c4] at H
     exact absurd H (by simp)
 · rw [if_neg c3] at H
   have c3b0 : ((t207.length : Int) == 2) = false := beq_eq_false_iff_ne.mpr c3
   have c3b1 : ((t207.length : Int) != 2) = true := bne_iff_ne.mpr c3
   simp only [Option.some.injEq, Prod.mk.injEq] at H
   obtain ⟨rfl, rfl, rfl⟩ := H
   go_enter Tryd.func23, Tryd.ntmps23
   go_wp2_with (first | ((with_reducible refine gate_dst (N := 2) rfl ?_); refine zb (w := w) 2 #[.int .i64 0, .int .i64 0] 41 zB ?_; clear HB; intro gb206 w21 HB BK206 GW206; have GE206 := GW206) | ((with_reducible refine gate_callee (f := 21) rfl ?_); refine zc 10 Tryd.func21 #[.string a0, .int .u8 45] ?_; (with_reducible refine (spec_l1Split.calls k a0 45 t207 _ A2.out).mono ?_); rintro e w22 ⟨v208, rfl, ho0, hb⟩; refine ⟨_, rfl, ?_⟩; have HO209 := zM (Kd.R_lower ho0 (below_size zB)); replace BK206 := zM (blk_below (g := gb206) (o := .cells #[.int .i64 0, .int .i64 0] 41 (0, 0)) (zK BK206.out) hb); replace HB := zM (below_step zB hb); (try clear hb); (try clear hb2); (try clear hk); (try clear hi); (try clear ho0); obtain ⟨Ao23, co23, eo23⟩ := Kd.R_slice HO209.out; subst eo23; have hcz24_0 := zy BK206 0; have hcz24_1 := zy BK206 1; have hfz24_0 := blk_frozen BK206.out 0; have hfz24_1 := blk_frozen BK206.out 1))
   refine bodyPost_ret (results_ct rfl _ _ gb206 41 #[.int .i64 0, .int .i64 0] (0, 0) _ rfl (by (with_reducible repeat (first | refine blk_drewN ?_ _ | refine blk_drew ?_ | refine blk_alloc ?_ _)); refine blk_put (cs := #[.int .i64 0, .int .i64 0]) ?_ 1 _ rfl; (with_reducible repeat (first | refine blk_drewN ?_ _ | refine blk_drew ?_ | refine blk_alloc ?_ _)); refine blk_put (cs := #[.int .i64 0, .int .i64 0]) ?_ 0 _ rfl; (with_reducible repeat (first | refine blk_drewN ?_ _ | refine blk_drew ?_ | refine blk_alloc ?_ _)); exact BK206.out) Tryd.underlying41 rfl (by kernel_rfl)) rfl ?_
   exact ⟨by first | rfl | (simp [errW_none, errW_some] <;> rfl) | (simp [*, errW_none, errW_some] <;> rfl), zB⟩

end Go.Proofs.YtfkcddambaadjaaDoor.P
namespace Go.Proofs.YtfkcddambaadjaaDoor.P
open Go.RowKit Go.Proofs.YtfkcddambaadjaaDoorW.PrintWords Go.Proofs.YtfkcddambaadjaaDoorW.PrintLast Go.Proofs.YtfkcddambaadjaaDoorW.PrintMore
theorem str_eq_iff (a b : ByteArray) : a.toList = b.toList ↔ a = b := by
  rw [ByteArray.toList_eq, ByteArray.toList_eq]
  constructor
  · intro h
    rw [← str_data a, ← str_data b, h]
  · intro h; rw [h]
def pre (p : List UInt8) : List (List UInt8) → List (List UInt8)
  | [] => [p]
  | x :: xs => (p ++ x) :: xs
/-- The pieces between the bytes c. -/
def spl (c : UInt8) : List UInt8 → List (List UInt8)
  | [] => [[]]
  | b :: l => if b = c then [] :: spl c l else pre [b] (spl c l)
theorem pre_ne (p : List UInt8) (z : List (List UInt8)) : pre p z ≠ [] := by cases z <;> simp [pre]
theorem spl_ne (c : UInt8) (l : List UInt8) : spl c l ≠ [] := by
  cases l with
  | nil => simp [spl]
  | cons b l => rw [spl]; split; simp; exact pre_ne _ _
theorem pre_nil {z : List (List UInt8)} (h : z ≠ []) : pre [] z = z := by
  cases z with
  | nil => exact absurd rfl h
  | cons x xs => simp [pre]
theorem pre_pre (p q : List UInt8) (z : List (List UInt8)) : pre p (pre q z) = pre (p ++ q) z := by cases z <;> simp [pre]
theorem extract_str (s : ByteArray) (a b : Nat) : s.extract a b = str ((s.data.toList.take b).drop a) := by
  apply ByteArray.ext
  apply Array.ext'
  rw [ByteArray.data_extract, Array.toList_extract, List.extract_eq_take_drop, List.drop_take]
  rfl
theorem split_loop (s : ByteArray) (c : UInt8) (hs : s.size ≤ 1048576) (d : Nat) : ∀ (m from_ : Nat) (acc : List ByteArray), s.size - m = d → from_ ≤ m → m ≤ s.size → acc.length ≤ m →
    Ev (fun k => spec_l1Split.l0 k s (c.toNat : Int) acc (from_ : Int) (m : Int)) (acc ++ (pre ((s.data.toList.take m).drop from_) (spl c (s.data.toList.drop m))).map str) := by
  have hl := size_len s
  induction d with
  | zero =>
    intro m from_ acc h1 h2 h3 h4
    obtain rfl : m = s.size := by omega
    rw [List.drop_eq_nil_of_le (Nat.le_of_eq hl.symm), spl, pre, List.append_nil, List.map_singleton, ← extract_str]
    refine Ev.step (fun k => by rw [spec_l1Split.l0]) (Ev.neg (by omega) (Ev.pos (by omega) (Ev.pos (by omega) (Ev.pos (by omega) ?_))))
    rw [Int.toNat_natCast]
    exact Ev.now _
  | succ d ih =>
    intro m from_ acc h1 h2 h3 h4
    have hm : m < s.data.toList.length := by omega
    have hw := wrap_up (m := m) (n := s.size) (by omega) (by omega)
    rw [List.drop_eq_getElem_cons hm, spl]
    have ht : (s.data.toList.take (m + 1)).drop from_ = (s.data.toList.take m).drop from_ ++ [s.data.toList[m]] := by
      rw [List.take_succ_eq_append_getElem hm, List.drop_append_of_le_length (by rw [List.length_take]; omega)]
    by_cases h : s.data.toList[m] = c
    · rw [if_pos h, pre, List.append_nil, List.map_cons, ← extract_str]
      refine Ev.step (fun k => by rw [spec_l1Split.l0]) (Ev.pos (by omega) (Ev.pos (by omega) (Ev.pos ?_ (Ev.pos (by omega) (Ev.pos (by omega) (Ev.pos (by omega) (Ev.pos (by omega) ?_)))))))
      · rw [bt_nat s m hm]; exact (toNat_inj _ _).2 h
      · rw [hw, Int.toNat_natCast, Int.toNat_natCast]
        have := ih (m + 1) (m + 1) (acc ++ [s.extract from_ m]) (by omega) (Nat.le_refl _) (by omega) (by rw [List.length_append, List.length_singleton]; omega)
        rw [List.drop_eq_nil_of_le (by rw [List.length_take]; omega), pre_nil (spl_ne _ _), List.append_assoc, List.singleton_append] at this
        exact this
    · rw [if_neg h, pre_pre, ← ht]
      refine Ev.step (fun k => by rw [spec_l1Split.l0]) (Ev.pos (by omega) (Ev.pos (by omega) (Ev.neg ?_ ?_)))
      · rw [bt_nat s m hm]; exact fun e => h ((toNat_inj _ _).1 e)
      · rw [hw]
        exact ih (m + 1) from_ acc (by omega) (by omega) (by omega) (by omega)
theorem split_ev (s : ByteArray) (c : UInt8) (hs : s.size ≤ 1048576) : Ev (fun k => spec_l1Split.f k s (c.toNat : Int)) ((spl c s.data.toList).map str) := by
  have := split_loop s c hs _ 0 0 [] rfl (Nat.le_refl _) (Nat.zero_le _) (Nat.zero_le _)
  rw [List.take_zero, List.drop_zero, List.drop_zero, pre_nil (spl_ne _ _), List.nil_append] at this
  exact this
end Go.Proofs.YtfkcddambaadjaaDoor.P
namespace Go.Proofs.YtfkcddambaadjaaDoor.P
open Go.RowKit Go.Proofs.YtfkcddambaadjaaDoorW.PrintWords Go.Proofs.YtfkcddambaadjaaDoorW.PrintLast Go.Proofs.YtfkcddambaadjaaDoorW.PrintMore
def isDig (c : UInt8) : Bool := decide (48 ≤ c.toNat ∧ c.toNat ≤ 57)
def valD (a : Nat) (l : List UInt8) : Nat := l.foldl (fun a c => a * 10 + (c.toNat - 48)) a
theorem valD_nil (a : Nat) : valD a [] = a := rfl
theorem valD_cons (a : Nat) (c : UInt8) (r : List UInt8) : valD a (c :: r) = valD (a * 10 + (c.toNat - 48)) r := by
  unfold valD
  rw [List.foldl_cons]
theorem dec_small (n : Nat) (h : n < 10) : Lib.decDigits n = [UInt8.ofNat (48 + n)] := by
  rw [Lib.decDigits]
  exact dif_pos h
theorem dec_big (n : Nat) (h : ¬ n < 10) : Lib.decDigits n = Lib.decDigits (n / 10) ++ [UInt8.ofNat (48 + n % 10)] := by
  have e := Lib.decDigits.eq_def n
  rw [dif_neg h] at e
  exact e
theorem valD_append (l m : List UInt8) : ∀ a, valD a (l ++ m) = valD (valD a l) m := by
  intro a
  exact List.foldl_append
theorem dig_byte (d : Nat) (h : d < 10) : (UInt8.ofNat (48 + d)).toNat = 48 + d := by
  rw [UInt8.toNat_ofNat']; omega
theorem dec_val (n : Nat) : valD 0 (Lib.decDigits n) = n := by
  induction n using Nat.strongRecOn with
  | _ n ih =>
    by_cases h : n < 10
    · rw [dec_small n h, valD_cons, valD_nil, dig_byte n h]; omega
    · rw [dec_big n h, valD_append, ih (n / 10) (by omega), valD_cons, valD_nil, dig_byte (n % 10) (Nat.mod_lt _ (by decide))]; omega
theorem dec_dig (n : Nat) : (Lib.decDigits n).all isDig = true := by
  induction n using Nat.strongRecOn with
  | _ n ih =>
    by_cases h : n < 10
    · rw [dec_small n h, List.all_cons, List.all_nil, Bool.and_true, isDig, dig_byte n h]; exact decide_eq_true (by omega)
    · rw [dec_big n h, List.all_append, ih (n / 10) (by omega), List.all_cons, List.all_nil, Bool.and_true, Bool.true_and, isDig, dig_byte (n % 10) (Nat.mod_lt _ (by decide))]; exact decide_eq_true (by omega)
theorem dec_len (k n : Nat) (h : n < 10 ^ (k + 1)) : (Lib.decDigits n).length ≤ k + 1 := by
  induction k generalizing n with
  | zero => rw [dec_small n (by simpa using h)]; exact Nat.le_refl _
  | succ k ih =>
    by_cases h2 : n < 10
    · rw [dec_small n h2]; simp
    · rw [dec_big n h2, List.length_append, List.length_singleton]
      have := ih (n / 10) (by rw [Nat.pow_succ] at h; omega)
      omega
theorem dec_pos (n : Nat) : 1 ≤ (Lib.decDigits n).length := by
  by_cases h : n < 10
  · rw [dec_small n h]; exact Nat.le_refl _
  · rw [dec_big n h, List.length_append, List.length_singleton]; omega
theorem valD_ge (l : List UInt8) : ∀ a, a ≤ valD a l := by
  induction l with
  | nil => intro a; exact Nat.le_refl _
  | cons c r ih => intro a; exact Nat.le_trans (by omega) (ih (a * 10 + (c.toNat - 48)))
theorem parse_ok (l : List UInt8) : ∀ a, l.all isDig = true → valD a l < 1844674407370955162 → Lib.parseUint10 a l = .ok (valD a l) := by
  induction l with
  | nil => intro a _ _; rfl
  | cons c r ih =>
    intro a hd hv
    rw [List.all_cons, Bool.and_eq_true] at hd
    have hc : 48 ≤ c.toNat ∧ c.toNat ≤ 57 := of_decide_eq_true hd.1
    rw [valD_cons] at hv ⊢
    have hg := valD_ge r (a * 10 + (c.toNat - 48))
    rw [Lib.parseUint10, if_pos hc, if_neg (by omega), if_neg (by omega)]
    exact ih _ hd.2 hv
theorem mag_dec (n : Nat) (h : n < 1844674407370955162) : Lib.parseMag (Lib.decDigits n) = .ok n := by
  have hp := dec_pos n
  rw [Lib.parseMag, if_neg (fun e => by rw [e] at hp; exact absurd hp (by decide)), parse_ok _ 0 (dec_dig n) (by rw [dec_val]; exact h), dec_val]
theorem atoi_itoa (n : Int) (h : -999999 ≤ n ∧ n ≤ 999999) : Lib.atoiAll (Lib.itoa n) = .ok n := by
  rw [Lib.itoa]
  by_cases h0 : n < 0
  · rw [if_pos h0, Lib.atoiAll_minus, mag_dec _ (by omega), Lib.signed, if_neg (by omega)]
    congr 1
    omega
  · rw [if_neg h0]
    have hm := mag_dec n.toNat (by omega)
    have hd := dec_dig n.toNat
    have hp := dec_pos n.toNat
    cases hz : Lib.decDigits n.toNat with
    | nil => rw [hz] at hp; exact absurd hp (by decide)
    | cons c r =>
      rw [hz] at hm hd
      rw [List.all_cons, Bool.and_eq_true] at hd
      have hc : 48 ≤ c.toNat ∧ c.toNat ≤ 57 := of_decide_eq_true hd.1
      rw [Lib.atoiAll_plain c r (by omega) (by omega), hm, Lib.signless, if_neg (by omega)]
      congr 1
      omega
/-- The text is the numeral of a number that the program formats. -/
def Numeral (s : ByteArray) : Prop := ∃ n : Int, (-999999 ≤ n ∧ n ≤ 999999) ∧ s = str (Lib.itoa n)
def finR (x t : ByteArray) (v : Nat) : Int × Bool :=
  if t.size < x.size then (if str (Lib.itoa (-(v : Int))) = x then (-(v : Int), true) else (0, false)) else (if str (Lib.itoa (v : Int)) = x then ((v : Int), true) else (0, false))
theorem read_loop (x t : ByteArray) (ht : t.size ≤ 6) (d : Nat) : ∀ m a : Nat, t.size - m = d → m ≤ t.size → a < 10 ^ m →
    Ev (fun k => spec_l1Read.l0 k x t (a : Int) (m : Int)) (if (t.data.toList.drop m).all isDig = true then finR x t (valD a (t.data.toList.drop m)) else (0, false)) := by
  have hl := size_len t
  induction d with
  | zero =>
    intro m a h1 h2 h3
    have ha : a < 1000000 := Nat.lt_of_lt_of_le h3 (Nat.pow_le_pow_right (n := 10) (by decide) (show m ≤ 6 by omega))
    rw [List.drop_eq_nil_of_le (by omega), List.all_nil, if_pos rfl, valD_nil]
    refine Ev.step (fun k => by rw [spec_l1Read.l0]) (Ev.neg (by omega) ?_)
    unfold finR
    by_cases c : t.size < x.size
    · rw [if_pos c]
      refine Ev.pos (by omega) ?_
      rw [wrap_nat (m := -(a : Int)) (by omega) (by omega)]
      refine Ev.bind (num_any (-(a : Int)) (by omega) (by omega)) ?_
      by_cases e : str (Lib.itoa (-(a : Int))) = x
      · rw [if_pos e]; exact Ev.pos ((str_eq_iff _ _).2 e) (Ev.now _)
      · rw [if_neg e]; exact Ev.neg (fun h => e ((str_eq_iff _ _).1 h)) (Ev.now _)
    · rw [if_neg c]
      refine Ev.neg (by omega) ?_
      refine Ev.bind (num_any (a : Int) (by omega) (by omega)) ?_
      by_cases e : str (Lib.itoa (a : Int)) = x
      · rw [if_pos e]; exact Ev.pos ((str_eq_iff _ _).2 e) (Ev.now _)
      · rw [if_neg e]; exact Ev.neg (fun h => e ((str_eq_iff _ _).1 h)) (Ev.now _)
  | succ d ih =>
    intro m a h1 h2 h3
    have hm : m < t.data.toList.length := by omega
    have ha : a < 1000000 := Nat.lt_of_lt_of_le h3 (Nat.pow_le_pow_right (n := 10) (by decide) (show m ≤ 6 by omega))
    rw [List.drop_eq_getElem_cons hm, List.all_cons, valD_cons]
    have hb := bt_nat t m hm
    by_cases c1 : (t.data.toList[m]).toNat < 48
    · rw [show isDig t.data.toList[m] = false from decide_eq_false (by omega), Bool.false_and, if_neg (by decide)]
      refine Ev.step (fun k => by rw [spec_l1Read.l0]) (Ev.pos (by omega) (Ev.pos (by omega) (Ev.pos ?_ (Ev.now _))))
      rw [hb]; omega
    · by_cases c2 : (t.data.toList[m]).toNat > 57
      · rw [show isDig t.data.toList[m] = false from decide_eq_false (by omega), Bool.false_and, if_neg (by decide)]
        refine Ev.step (fun k => by rw [spec_l1Read.l0]) (Ev.pos (by omega) (Ev.pos (by omega) (Ev.neg ?_ (Ev.pos ?_ (Ev.now _)))))
        · rw [hb]; omega
        · rw [hb]; omega
      · rw [show isDig t.data.toList[m] = true from decide_eq_true (by omega), Bool.true_and]
        refine Ev.step (fun k => by rw [spec_l1Read.l0]) (Ev.pos (by omega) (Ev.pos (by omega) (Ev.neg ?_ (Ev.neg ?_ ?_))))
        · rw [hb]; omega
        · rw [hb]; omega
        · rw [hb, wrap_up (m := m) (n := t.size) (by omega) (by omega), wrap_nat (m := 10 * (a : Int)) (by omega) (by omega), show (((t.data.toList[m]).toNat : Int) - 48) % 256 = (((t.data.toList[m]).toNat - 48 : Nat) : Int) by omega,
            wrap_nat (by omega) (by omega), show 10 * (a : Int) + (((t.data.toList[m]).toNat - 48 : Nat) : Int) = ((a * 10 + ((t.data.toList[m]).toNat - 48) : Nat) : Int) by omega]
          exact ih (m + 1) _ (by omega) (by omega) (by rw [Nat.pow_succ]; omega)
theorem valD_lt (l : List UInt8) : ∀ a m, a < 10 ^ m → l.all isDig = true → valD a l < 10 ^ (m + l.length) := by
  induction l with
  | nil => intro a m h _; exact h
  | cons c r ih =>
    intro a m h hd
    rw [List.all_cons, Bool.and_eq_true] at hd
    have hc : 48 ≤ c.toNat ∧ c.toNat ≤ 57 := of_decide_eq_true hd.1
    have := ih (a * 10 + (c.toNat - 48)) (m + 1) (by rw [Nat.pow_succ]; omega) hd.2
    rw [valD_cons, List.length_cons]
    rwa [show m + (r.length + 1) = m + 1 + r.length by omega]
/-- Behind the sign. -/
theorem read_mag (x t : ByteArray) : ∃ r, Ev (fun k => spec_l1Read.j1 k x t) r ∧ (r = (0, false) ∨ Numeral x) ∧ ∀ n : Nat, n ≤ 999999 → t = str (Lib.decDigits n) → r = finR x t n := by
  by_cases h : 1 ≤ t.size ∧ t.size ≤ 6
  · have h0 := read_loop x t h.2 _ 0 0 rfl (Nat.zero_le _) (by decide)
    rw [List.drop_zero] at h0
    refine ⟨_, Ev.step (fun k => by rw [spec_l1Read.j1]) (Ev.bindo (a := true) ?_ (Ev.pos rfl h0)), ?_, ?_⟩
    · unfold spec_l1In.f
      rw [if_pos (by omega)]
      exact congrArg some (decide_eq_true (by omega))
    · by_cases hd : t.data.toList.all isDig = true
      · have hv : valD 0 t.data.toList < 10 ^ 6 := by
          have h1 := valD_lt t.data.toList 0 0 (by decide) hd
          exact Nat.lt_of_lt_of_le h1 (Nat.pow_le_pow_right (n := 10) (by decide) (by have := size_len t; omega))
        rw [if_pos hd]
        unfold finR
        by_cases c : t.size < x.size
        · rw [if_pos c]
          by_cases e : str (Lib.itoa (-(valD 0 t.data.toList : Int))) = x
          · exact .inr ⟨_, by omega, e.symm⟩
          · exact .inl (if_neg e)
        · rw [if_neg c]
          by_cases e : str (Lib.itoa (valD 0 t.data.toList : Int)) = x
          · exact .inr ⟨_, by omega, e.symm⟩
          · exact .inl (if_neg e)
      · exact .inl (if_neg hd)
    · intro n hn e
      have e2 : t.data.toList = Lib.decDigits n := by rw [e]; simp [str]
      rw [e2, if_pos (dec_dig n), dec_val]
  · refine ⟨(0, false), Ev.step (fun k => by rw [spec_l1Read.j1]) (Ev.bindo (a := false) ?_ (Ev.neg (show ¬ (false = true) by decide) (Ev.now _))), .inl rfl, ?_⟩
    · unfold spec_l1In.f
      by_cases h1 : (t.size : Int) ≥ 1
      · rw [if_pos h1]; exact congrArg some (decide_eq_false (by omega))
      · rw [if_neg h1]
    · intro n hn e
      refine absurd ⟨?_, ?_⟩ h
      · rw [e, str_size]; exact dec_pos n
      · rw [e, str_size]; exact dec_len 5 n (by omega)
theorem spec_l1Read_ev (x : ByteArray) : ∃ r : Int × Bool, Ev (fun k => spec_l1Read.f k x) r ∧ (¬ Numeral x → r = (0, false)) ∧ ∀ n : Int, -999999 ≤ n ∧ n ≤ 999999 → x = str (Lib.itoa n) → r = (n, true) := by
  have hl := size_len x
  by_cases c : x.size > 1 ∧ bt x 0 = 45
  · obtain ⟨r, h1, h2, h3⟩ := read_mag x (x.extract 1 x.size)
    refine ⟨r, ?_, fun hn => h2.resolve_right hn, ?_⟩
    · unfold spec_l1Read.f
      refine Ev.pos (by omega) (Ev.pos (by omega) ?_)
      exact Ev.step (fun k => by rw [spec_l1Read.j0]) (Ev.pos (by rw [c.2]; rfl) (Ev.pos (by omega) h1))
    · intro n hn e
      by_cases h0 : n < 0
      · have ei : Lib.itoa n = 45 :: Lib.decDigits n.natAbs := if_pos h0
        have et : x.extract 1 x.size = str (Lib.decDigits n.natAbs) := by
          rw [extract_str, e, ei, str_size]
          simp [str]
        rw [h3 n.natAbs (by omega) et, finR, if_pos (by rw [et, e, ei, str_size, str_size, List.length_cons]; omega), show -((n.natAbs : Nat) : Int) = n by omega, if_pos e.symm]
      · have ei : Lib.itoa n = Lib.decDigits n.toNat := if_neg h0
        exfalso
        have hd := dec_dig n.toNat
        have ex : x.data.toList = Lib.decDigits n.toNat := by rw [e, ei]; simp [str]
        have hb := bt_nat x 0 (by omega)
        rw [← ex] at hd
        have h4 := List.all_eq_true.1 hd (x.data.toList[0]'(by omega)) (List.getElem_mem _)
        have h5 : 48 ≤ (x.data.toList[0]'(by omega)).toNat ∧ _ := of_decide_eq_true h4
        have h6 := c.2
        rw [show (0 : Int) = ((0 : Nat) : Int) from rfl, hb] at h6
        omega
  · obtain ⟨r, h1, h2, h3⟩ := read_mag x x
    refine ⟨r, ?_, fun hn => h2.resolve_right hn, ?_⟩
    · unfold spec_l1Read.f
      by_cases c1 : x.size > 1
      · refine Ev.pos (by omega) (Ev.pos (by omega) ?_)
        exact Ev.step (fun k => by rw [spec_l1Read.j0]) (Ev.neg (fun e => c ⟨c1, by simpa using e⟩) h1)
      · refine Ev.neg (by omega) ?_
        exact Ev.step (fun k => by rw [spec_l1Read.j0]) (Ev.neg (by decide) h1)
    · intro n hn e
      by_cases h0 : n < 0
      · exfalso
        have ei : Lib.itoa n = 45 :: Lib.decDigits n.natAbs := if_pos h0
        have ex : x.data.toList = 45 :: Lib.decDigits n.natAbs := by rw [e, ei]; simp [str]
        have hp := dec_pos n.natAbs
        have hsz : x.size > 1 := by rw [e, ei, str_size, List.length_cons]; omega
        refine c ⟨hsz, ?_⟩
        have hb := bt_nat x 0 (by omega)
        rw [show (0 : Int) = ((0 : Nat) : Int) from rfl, hb]
        simp only [ex, List.getElem_cons_zero]
        rfl
      · have ei : Lib.itoa n = Lib.decDigits n.toNat := if_neg h0
        rw [h3 n.toNat (by omega) (by rw [e, ei]), finR, if_neg (by omega), show ((n.toNat : Nat) : Int) = n by omega, if_pos e.symm]
end Go.Proofs.YtfkcddambaadjaaDoor.P
namespace Go.Proofs.YtfkcddambaadjaaDoor.P
open Go.RowKit Go.Proofs.YtfkcddambaadjaaDoorW.PrintWords Go.Proofs.YtfkcddambaadjaaDoorW.PrintLast Go.Proofs.YtfkcddambaadjaaDoorW.PrintMore
/-- An error variable of the library's holds an error. -/
def ErrAt (g : Nat) (w : World) : Prop := ∃ ev, w.cell? ⟨g, 0, none⟩ = some ev ∧ (ev = .nilIface ∨ ∃ te pe, ev = .iface te pe)
theorem errAt_below {g : Nat} {w w' : World} (h : ErrAt g w) (hb : Below w.heap.size w w') : ErrAt g w' := by
  obtain ⟨ev, h1, h2⟩ := h
  exact ⟨ev, pw_cell_below hb h1, h2⟩
/-- The bool and the number that Atoi and what stands behind it come to. -/
theorem atoi_calls (s : ByteArray) (hs : s.size ≤ 1048576) (w : World) (h1 : ErrAt 0 w) (h2 : ErrAt 1 w) :
    Calls Tryd.prog 25 #[.string s] w fun e w' => Below w.heap.size w w' ∧ ((∃ v, Lib.atoiAll s.data.toList = .ok v ∧ e = .returned (.tuple #[.int .i64 v, .nilIface])) ∨ ((∀ v, Lib.atoiAll s.data.toList ≠ .ok v) ∧ ∃ (v : Int) (N : Nat), e = .returned (.tuple #[.int .i64 v, .iface 70 (.pointer (some ⟨N, 0, none⟩))]))) := by
  cases h : Lib.atoiAll s.data.toList with
  | ok v =>
    refine (Tryd.strconv_Atoi_ok s (by omega) v h w).mono fun e w' hh => ⟨?_, .inl ⟨v, rfl, hh.1⟩⟩
    rcases hh.2 with rfl | ⟨t, rfl⟩
    · exact Below.refl _ _
    · exact Lib.bytesWorld_below _ _ _
  | «syntax» =>
    obtain ⟨ev, e1, e2⟩ := h1
    refine (Tryd.strconv_Atoi_syntax s (by omega) h ev w e1 e2).mono fun e w' hh => ?_
    obtain ⟨N, e3, _, _, hb⟩ := hh
    exact ⟨hb, .inr ⟨(fun v hv => by cases hv), _, N, e3⟩⟩
  | range =>
    obtain ⟨ev, e1, e2⟩ := h2
    refine (Tryd.strconv_Atoi_range s (by omega) h ev w e1 e2).mono fun e w' hh => ?_
    obtain ⟨N, e3, _, _, hb⟩ := hh
    exact ⟨hb, .inr ⟨(fun v hv => by cases hv), _, N, e3⟩⟩
end Go.Proofs.YtfkcddambaadjaaDoor.P
namespace Go.Proofs.YtfkcddambaadjaaDoor
open Go.ChangeShapes Go.WideShapes Go.ChangeAt Go.RowKit
abbrev rangeS : ByteArray := { data := #[118, 97, 108, 117, 101, 32, 111, 117, 116, 32, 111, 102, 32, 114, 97, 110, 103, 101] }
abbrev syntaxS : ByteArray := { data := #[105, 110, 118, 97, 108, 105, 100, 32, 115, 121, 110, 116, 97, 120] }
/-- So many blocks has the settled world. -/
noncomputable def low : Nat := (World.holding Tryd.prog default ⟨#[], #[], []⟩).heap.size
def layV (v : Value) : Obj → Obj
  | .cells _ t frozen => .cells #[v] t frozen
  | o => o
theorem star : "*" ++ "errors.errorString" = "*errors.errorString" := by decide
theorem errRow (u : TypeId) (h : Tryd.prog.typeName? 3 u = some "*errors.errorString") : u = 102 :=
  typeName_ptr_named (nm := "errors.errorString") (by rw [star]; kernel_rfl) (by kernel_rfl) (by decide) u (by rw [star]; exact h)
theorem errAt_of_laid {text : List UInt8} {r : List (String × DataW Unit)} {W : World} {n : String} {g : Nat} (h : laidMet Tryd.prog ((n, .iface "*errors.errorString" (.ptr (.agg [.lit (.string text)]))) :: r) W) (hg : Tryd.prog.globalNamed n = some g) (ht : (Tryd.prog.globals[g]?).map (·.type) = some 51) : P.ErrAt g W := by
  obtain ⟨a, s, hv, _⟩ := laid_sentinel h hg ht Tryd.underlying51 errRow Tryd.underlying102 Tryd.underlying104 rfl rfl Tryd.underlying9 (by kernel_rfl) (by kernel_rfl)
  have h2 := World.var?_cell hg hv 0
  exact ⟨_, h2, .inr ⟨_, _, rfl⟩⟩
end Go.Proofs.YtfkcddambaadjaaDoor
namespace Go.Proofs.YtfkcddambaadjaaDoor
open Go.ChangeShapes Go.WideShapes Go.ChangeAt Go.RowKit
def numCells : List (DataW Unit) → List Value := fun l => l.map fun | .lit (.int k n) => Value.int k n | _ => Value.bool false
def rowCells (d : DataW Unit) : Array Value :=
  match d with
  | .agg l => (l.flatMap fun | .agg m => numCells m | x => numCells [x]).toArray
  | _ => #[]
def layR (d : DataW Unit) : Obj → Obj
  | .cells _ t frozen => .cells (rowCells d) t frozen
  | o => o
end Go.Proofs.YtfkcddambaadjaaDoor
namespace Go.Proofs.YtfkcddambaadjaaDoor
open Go.ChangeShapes Go.WideShapes Go.ChangeAt Go.RowKit
noncomputable def allWorld (os : Os) : World :=
  let w0 := World.holding Tryd.prog os ⟨#[.cells #[.string rangeS] 104, .cells #[.string syntaxS] 104], #[], []⟩
  { w0 with heap := ((((((w0.heap.modify 6 (lay Rows.laid_math_bits_deBruijn32tab)).modify 7 (lay Rows.laid_math_bits_deBruijn64tab)).modify 3 (lay Rows.laid_internal_strconv_uint64pow10)).modify 1 (layV (.iface 102 (.pointer (some ⟨low, 0, none⟩))))).modify 0 (layV (.iface 102 (.pointer (some ⟨low + 1, 0, none⟩))))).modify 5 (layR Rows.laid_unicode_utf8_acceptRanges)).modify 4 (layR Rows.laid_unicode_utf8_first) }
open Go.Proofs.YtfkcddambaadjaaDoor.P in
theorem errs_of_laid7 {W : World} {z : List (String × DataW Unit)} (h : laidMet Tryd.prog (("math/bits.deBruijn32tab", Rows.laid_math_bits_deBruijn32tab) :: ("math/bits.deBruijn64tab", Rows.laid_math_bits_deBruijn64tab) :: ("internal/strconv.uint64pow10", Rows.laid_internal_strconv_uint64pow10) :: ("unicode/utf8.acceptRanges", Rows.laid_unicode_utf8_acceptRanges) :: ("strconv.ErrRange", Rows.laid_strconv_ErrRange) :: ("strconv.ErrSyntax", Rows.laid_strconv_ErrSyntax) :: z) W) : ErrAt 0 W ∧ ErrAt 1 W :=
  ⟨errAt_of_laid (laidMet_tail (laidMet_tail (laidMet_tail (laidMet_tail (laidMet_tail h))))) (by kernel_rfl) (by kernel_rfl), errAt_of_laid (laidMet_tail (laidMet_tail (laidMet_tail (laidMet_tail h)))) (by kernel_rfl) (by kernel_rfl)⟩
end Go.Proofs.YtfkcddambaadjaaDoor
namespace Go.Proofs.YtfkcddambaadjaaDoor.P
open Go.RowKit Go.Proofs.YtfkcddambaadjaaDoorW.PrintWords Go.Proofs.YtfkcddambaadjaaDoorW.PrintLast Go.Proofs.YtfkcddambaadjaaDoorW.PrintMore
set_option linter.unusedVariables false
set_option linter.unusedSimpArgs false

def cmpI (a b : Int) : Int := if a < b then -1 else if a > b then 1 else 0
theorem cmp_Compare_at (a b : Int) : cmp_Compare_int.f a b = some (cmpI a b) := by
  unfold cmp_Compare_int.f cmp_isNaN_int.f cmpI
  simp only [Option.bind_some, bne_self_eq_false, Bool.false_eq_true, if_false]
  split
  · rfl
  · split <;> rfl
def cmpP (a b : S41) : Int := if cmpI a.f0 b.f0 = 0 then cmpI a.f1 b.f1 else cmpI a.f0 b.f0
theorem comparePairs_at (a b : S41) (k : Nat) (hk : 3 ≤ k) : impl_comparePairs.f k a.f0 a.f1 b.f0 b.f1 = some (cmpP a b) := by
  obtain ⟨k, rfl⟩ : ∃ q, k = q + 3 := ⟨k - 3, by omega⟩
  unfold impl_comparePairs.f cmp_Or_int.f
  simp only [cmp_Compare_at, Option.bind_some]
  unfold cmpP
  generalize cmpI a.f0 b.f0 = x
  generalize cmpI a.f1 b.f1 = y
  have w1 : wrap64 (0 + 1) = 1 := by unfold wrap64; omega
  have w2 : wrap64 (1 + 1) = 2 := by unfold wrap64; omega
  have r0 : rd [x, y] 0 = x := rfl
  have r1 : rd [x, y] 1 = y := rfl
  have hn : (([x, y] : List Int).length : Int) = 2 := rfl
  rw [hn, cmp_Or_int.l0, if_pos (by omega), if_pos (by omega), hn, if_pos (by omega), r0, w1]
  by_cases h : x = 0
  · rw [if_pos h, if_pos h, cmp_Or_int.l0, if_pos (by omega), if_pos (by omega), hn, if_pos (by omega), r1, w2]
    by_cases h2 : y = 0
    · rw [if_pos h2, cmp_Or_int.l0, if_neg (by omega), h2]; rfl
    · rw [if_neg h2]; rfl
  · rw [if_neg h, if_neg h]; rfl
end Go.Proofs.YtfkcddambaadjaaDoor.P
