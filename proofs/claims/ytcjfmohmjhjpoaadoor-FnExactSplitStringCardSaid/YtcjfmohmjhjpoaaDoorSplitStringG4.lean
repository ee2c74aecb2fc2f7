-- Written by a program of this session (the kit's print, turned: wip/print/patch.py) out of the translation. Not trusted: Lean checks it.
import Derived.Test.YtcjfmohmjhjpoaaDoorSplitStringG3
import Derived.Lib.IndexMore
import Derived.Lib.IndexBytes
import Derived.Laws.Strings
import Derived.Lib.SplitLaws
import Derived.Below
namespace Go.Proofs.YtcjfmohmjhjpoaaDoor.P
open Go.RowKit Go.Proofs.YtcjfmohmjhjpoaaDoorW.PrintWords Go.Proofs.YtcjfmohmjhjpoaaDoorW.PrintLast Go.Proofs.YtcjfmohmjhjpoaaDoorW.PrintMore
attribute [local go_sem] max2_int min2_int max_two min_two max_three min_three max_four min_four   -- for this text's walks alone
set_option linter.unusedVariables false
set_option linter.unusedSimpArgs false

-- NOT PRINTED: function 105 (bits_TrailingZeros32)

-- NOT PRINTED: function 106 (bits_TrailingZeros64)

-- NOT PRINTED: function 99 (bits_TrailingZeros)

-- NOT PRINTED: function 82 (strconv_formatBits)

-- NOT PRINTED: function 68 (strconv_FormatInt)

-- NOT PRINTED: function 56 (strconv_Itoa_56)

-- NOT PRINTED: function 37 (strconv_Itoa_37)

-- NOT PRINTED: function 11 (impl_FormatInt)

-- NOT PRINTED: function 3 (laws_FnExactFormatInt)

/-! ### spec_l1Split: function 38 -/
def spec_l1Split.l0 : Nat → ByteArray → Int → List ByteArray → Int → Int → Option (List ByteArray)
 | 0, _, _, _, _, _ => none
 | k + 1, x0, x1, x5, x6, x7 => if x7 < (x0.size : Int) then (if 0 ≤ x7 then (if (bt x0 x7) = x1 then (if 0 ≤ x6 then (if x6 ≤ x7 then (if x7 ≤ (x0.size : Int) then (if x5.length < 8796093022208 then (spec_l1Split.l0 k x0 x1 (x5 ++ [x0.extract (x6 : Int).toNat (x7 : Int).toNat]) (wrap64 (x7 + 1)) (wrap64 (x7 + 1))) else (none)) else (none)) else (none)) else (none)) else (spec_l1Split.l0 k x0 x1 x5 x6 (wrap64 (x7 + 1)))) else (none)) else (if 0 ≤ x6 then (if x6 ≤ (x0.size : Int) then (if x5.length < 8796093022208 then (some (x5 ++ [x0.extract (x6 : Int).toNat x0.size])) else (none)) else (none)) else (none))
def spec_l1Split.f (k : Nat) (a0 : ByteArray) (a1 : Int) : Option (List ByteArray) := spec_l1Split.l0 k a0 a1 (([] : List ByteArray)) 0 0
set_option maxHeartbeats 8000000 in
set_option maxRecDepth 100000 in
theorem spec_l1Split.calls (k : Nat) (a0 : ByteArray) (a1 : Int) (r : List ByteArray) (w : World) (h : spec_l1Split.f k a0 a1 = some r) :
 Calls Tryd.prog 38 #[.string a0, .int .u8 a1] w fun e w' => ∃ v0_ : Value, e = .returned (v0_) ∧ Kd.R Kd.string 9 w' w.heap.size (fun _ => True) v0_ r ∧ Below w.heap.size w w' := by
 have HB := zM (Below.refl w.heap.size w)
 have H : (spec_l1Split.l0 k a0 a1 (([] : List ByteArray)) 0 0) = some r := h
 clear h
 obtain ⟨y126, hy126⟩ : ∃ y_ : List ByteArray, y_ = (([] : List ByteArray)) := ⟨_, rfl⟩
 replace H : (spec_l1Split.l0 k a0 a1 y126 0 0) = some r := by first | (rw [hy126]; with_reducible exact H) | (have H2_ := (Option.bind_some _ _).symm.trans H; rw [hy126]; with_reducible exact H2_) | (have H2_ := (Option.bind_some _ _).symm.trans H; with_reducible exact H2_) | with_reducible exact H | (rw [hy126]; exact H) | exact H
 have Ny126 := Aside0.mk hy126
 clear hy126
 have H' := Aside0.mk H
 clear H
 go_enter Tryd.func38, Tryd.ntmps38
 go_wp2_with (first | ((with_reducible refine gate_dst (N := 8) rfl ?_); refine Kd.R_lit Kd.string _ 9 ?hg (N := 8) ?hd (xs := ([] : List ByteArray)) (inner := []) (ok := fun _ => True) (okp := fun _ => True) ?hr ?hp (fun _ hk => hk) trivial (Below.refl _ _) (Nat.le_refl _) (by simp) ?_; (case hd => rfl); (case hg => rfl); (case hr => first | (go_simp; done) | (go_simp; rfl)); (case hp => exact (Reps.none _ _)); intro v127 w3 ho4 hb hg_ hnew_; clear hg_ hnew_; (first | rw [← Ny126.out] at ho4 | (simp only [Int.reduceToNat] at ho4; rw [← Ny126.out] at ho4)); have HO128 := zM (Kd.R_lower ho4 (below_size zB)); replace HB := zM (below_step zB hb); clear hb ho4))
 go_loopg [5, 6, 7] k (fun kq v5 v6 v7 w' => ∃ (x5_1 : List ByteArray) (x6_1 : Int) (x7_1 : Int), v6 = .int .i64 x6_1 ∧ v7 = .int .i64 x7_1 ∧ Aside0 (spec_l1Split.l0 kq a0 a1 x5_1 x6_1 x7_1 = some r) ∧ Aside0 (kq ≤ k) ∧ Aside0 (Kd.R Kd.string 9 w' w.heap.size (fun _ => True) v5 x5_1) ∧ Aside0 (Below w.heap.size w w'))
 case atStart => exact ⟨(y126), (0), (0), (by first | rfl | (simp; done) | (simp [*]; done)), (by first | rfl | (simp; done) | (simp [*]; done)), H', ⟨Nat.le_refl _⟩, ⟨zR HO128.out⟩, ⟨zB⟩⟩
 case round =>
  clear H'
  try clear p2
  try clear c3
  obtain ⟨x5_1, x6_1, x7_1, rfl, rfl, HA, HK1, HO_5, HB⟩ := hrel
  cases gk with
  | zero => exact absurd HA.out (by simp [spec_l1Split.l0])
  | succ k1 =>
   have H := HA.out
   clear HA
   simp only [spec_l1Split.l0] at H
   by_cases c5 : x7_1 < (a0.size : Int)
   · rw [if_pos c5] at H
     have c5b0 := decide_eq_true c5
     clear c5
     by_cases c6 : 0 ≤ x7_1
     · rw [if_pos c6] at H
       have c6b0 := decide_eq_true c6
       clear c6
       by_cases c8 : (bt a0 x7_1) = a1
       · rw [if_pos c8] at H
         have c8b0 : ((bt a0 x7_1) == a1) = true := beq_iff_eq.mpr c8
         have c8b1 : ((bt a0 x7_1) != a1) = false := bne_eq_false_iff_eq.mpr c8
         clear c8
         by_cases c9 : 0 ≤ x6_1
         · rw [if_pos c9] at H
           have c9b0 := eq_true c9
           have c9b1 : decide (0 ≤ x6_1) = true := decide_eq_true c9
           clear c9
           by_cases c10 : x6_1 ≤ x7_1
           · rw [if_pos c10] at H
             have c10b0 := eq_true c10
             have c10b1 : decide (x6_1 ≤ x7_1) = true := decide_eq_true c10
             clear c10
             by_cases c11 : x7_1 ≤ (a0.size : Int)
             · rw [if_pos c11] at H
               have c11b0 := eq_true c11
               have c11b1 : decide (x7_1 ≤ (a0.size : Int)) = true := decide_eq_true c11
               clear c11
               by_cases c12 : x5_1.length < 8796093022208
               · rw [if_pos c12] at H
                 have LMc12 := Aside0.mk c12
                 clear c12
                 obtain ⟨y129, hy129⟩ : ∃ y_ : List ByteArray, y_ = (x5_1 ++ [a0.extract (x6_1 : Int).toNat (x7_1 : Int).toNat]) := ⟨_, rfl⟩
                 replace H : (spec_l1Split.l0 k1 a0 a1 y129 (wrap64 (x7_1 + 1)) (wrap64 (x7_1 + 1))) = some r := by first | (rw [hy129]; with_reducible exact H) | (have H2_ := (Option.bind_some _ _).symm.trans H; rw [hy129]; with_reducible exact H2_) | (have H2_ := (Option.bind_some _ _).symm.trans H; with_reducible exact H2_) | with_reducible exact H | (rw [hy129]; exact H) | exact H
                 have Ny129 := Aside0.mk hy129
                 clear hy129
                 have H' := Aside0.mk H
                 clear H
                 have p7 : 0 ≤ (x7_1 : Int) := of_decide_eq_true zA
                 have q7 : x7_1 < (a0.size : Int) := of_decide_eq_true zA
                 have hx7 := bt_at a0 x7_1
                 replace p7 := eq_true p7
                 replace q7 := eq_true q7
                 go_wp2_with (first | ((with_reducible refine gate_builtin (b := .append) (xs := #[.tmp 20, .tmp 25]) rfl ?_); at_builtin; refine Kd.R_append Kd.string (w0 := w) w.heap.size rfl (.tmp 20) (.tmp 25) 25 9 (.string ⟨#[]⟩) 16 rfl Tryd.underlying25 info9 rfl (by decide) (by omega) u5 x5_1 (a0.extract (x6_1 : Int).toNat (x7_1 : Int).toNat) [.string (a0.extract (x6_1 : Int).toNat (x7_1 : Int).toNat)] (fun _ => True) (fun _ => False) rfl rfl ?aP (fun _ hk => hk.elim) ?aF ?aO ?aB ?aS ?aL ?_; (case aP => exact rfl); (case aB => exact zB); (case aF => exact (fun _ _ => trivial)); (case aO => exact (zR HO_5.out)); (case aS => exact (below_size zB)); (case aL => have := LMc12.out; omega); intro v130 w13 ho hb hg hat; rw [← Ny129.out] at ho; replace HB := zM (hb); have HO131 := zM (ho); clear HO_5; clear ho hb hg hat))
                 go_roundg k1
                 case measure => have := HK1.out; omega
                 case rel => exact ⟨(y129), (wrap64 (x7_1 + 1)), (wrap64 (x7_1 + 1)), (by first | rfl | (simp; done) | (simp [*]; done)), (by first | rfl | (simp; done) | (simp [*]; done)), H', ⟨by have := HK1.out; omega⟩, ⟨zR HO131.out⟩, ⟨zB⟩⟩
               · rw [if_neg c12] at H
                 exact absurd H (by simp)
             · rw [if_neg c11] at H
               exact absurd H (by simp)
           · rw [if_neg c10] at H
             exact absurd H (by simp)
         · rw [if_neg c9] at H
           exact absurd H (by simp)
       · rw [if_neg c8] at H
         have c8b0 : ((bt a0 x7_1) == a1) = false := beq_eq_false_iff_ne.mpr c8
         have c8b1 : ((bt a0 x7_1) != a1) = true := bne_iff_ne.mpr c8
         have H' := Aside0.mk H
         clear H
         have p7 : 0 ≤ (x7_1 : Int) := of_decide_eq_true zA
         have q7 : x7_1 < (a0.size : Int) := of_decide_eq_true zA
         have hx7 := bt_at a0 x7_1
         replace p7 := eq_true p7
         replace q7 := eq_true q7
         go_wp2
         go_roundg k1
         case measure => have := HK1.out; omega
         case rel => exact ⟨(x5_1), (x6_1), (wrap64 (x7_1 + 1)), (by first | rfl | (simp; done) | (simp [*]; done)), (by first | rfl | (simp; done) | (simp [*]; done)), H', ⟨by have := HK1.out; omega⟩, ⟨zR HO_5.out⟩, ⟨zB⟩⟩
     · rw [if_neg c6] at H
       exact absurd H (by simp)
   · rw [if_neg c5] at H
     have c5b0 : decide (x7_1 < (a0.size : Int)) = false := decide_eq_false c5
     clear c5
     by_cases c14 : 0 ≤ x6_1
     · rw [if_pos c14] at H
       have c14b0 := eq_true c14
       have c14b1 : decide (0 ≤ x6_1) = true := decide_eq_true c14
       clear c14
       by_cases c15 : x6_1 ≤ (a0.size : Int)
       · rw [if_pos c15] at H
         have c15b0 := eq_true c15
         have c15b1 : decide (x6_1 ≤ (a0.size : Int)) = true := decide_eq_true c15
         clear c15
         by_cases c16 : x5_1.length < 8796093022208
         · rw [if_pos c16] at H
           have LMc16 := Aside0.mk c16
           clear c16
           obtain ⟨y132, hy132⟩ : ∃ y_ : List ByteArray, y_ = (x5_1 ++ [a0.extract (x6_1 : Int).toNat a0.size]) := ⟨_, rfl⟩
           replace H : (some y132) = some r := by first | (rw [hy132]; with_reducible exact H) | (have H2_ := (Option.bind_some _ _).symm.trans H; rw [hy132]; with_reducible exact H2_) | (have H2_ := (Option.bind_some _ _).symm.trans H; with_reducible exact H2_) | with_reducible exact H | (rw [hy132]; exact H) | exact H
           have Ny132 := Aside0.mk hy132
           clear hy132
           obtain rfl := Option.some.inj H
           go_wp2_with (first | ((with_reducible refine gate_builtin (b := .append) (xs := #[.tmp 29, .tmp 33]) rfl ?_); at_builtin; refine Kd.R_append Kd.string (w0 := w) w.heap.size rfl (.tmp 29) (.tmp 33) 25 9 (.string ⟨#[]⟩) 16 rfl Tryd.underlying25 info9 rfl (by decide) (by omega) u5 x5_1 (a0.extract (x6_1 : Int).toNat a0.size) [.string (a0.extract (x6_1 : Int).toNat a0.size)] (fun _ => True) (fun _ => False) rfl rfl ?aP (fun _ hk => hk.elim) ?aF ?aO ?aB ?aS ?aL ?_; (case aP => exact rfl); (case aB => exact zB); (case aF => exact (fun _ _ => trivial)); (case aO => exact (zR HO_5.out)); (case aS => exact (below_size zB)); (case aL => have := LMc16.out; omega); intro v133 w17 ho hb hg hat; rw [← Ny132.out] at ho; replace HB := zM (hb); have HO134 := zM (ho); clear HO_5; clear ho hb hg hat))
           go_ret
           exact ⟨_, by first | rfl | (simp [errW_none, errW_some] <;> rfl) | (simp [*, errW_none, errW_some] <;> rfl), by (with_reducible repeat (first | apply Kd.R_alloc | apply Kd.R_drewN | apply Kd.R_drew)); exact HO134.out, zB⟩
         · rw [if_neg c16] at H
           exact absurd H (by simp)
       · rw [if_neg c15] at H
         exact absurd H (by simp)
     · rw [if_neg c14] at H
       exact absurd H (by simp)

/-! ### spec_SplitString: function 12 -/
def spec_SplitString.f (k : Nat) (a0 : ByteArray) (a1 : ByteArray) : Option (List ByteArray × Bool) := if (a1.size : Int) = 1 then (if (a0.size : Int) > 4000 then (some ((([] : List ByteArray)), false)) else (if 0 < (a1.size : Int) then ((spec_l1Split.f k a0 (bt a1 0)).bind fun t138 => (some (t138, true))) else (none))) else (some ((([] : List ByteArray)), false))
set_option maxHeartbeats 8000000 in
set_option maxRecDepth 100000 in
theorem spec_SplitString.calls (k : Nat) (a0 : ByteArray) (a1 : ByteArray) (r1 : List ByteArray) (r2 : Bool) (w : World) (h : spec_SplitString.f k a0 a1 = some (r1, r2)) :
 Calls Tryd.prog 12 #[.string a0, .string a1] w fun e w' => ∃ v0_ : Value, e = .returned (.tuple #[v0_, .bool r2]) ∧ Kd.R Kd.string 9 w' w.heap.size (fun _ => True) v0_ r1 ∧ Below w.heap.size w w' := by
 have HB := zM (Below.refl w.heap.size w)
 have H : (if (a1.size : Int) = 1 then (if (a0.size : Int) > 4000 then (some ((([] : List ByteArray)), false)) else (if 0 < (a1.size : Int) then ((spec_l1Split.f k a0 (bt a1 0)).bind fun t138 => (some (t138, true))) else (none))) else (some ((([] : List ByteArray)), false))) = some (r1, r2) := h
 clear h
 by_cases c3 : (a1.size : Int) = 1
 · rw [if_pos c3] at H
   have c3b0 : ((a1.size : Int) == 1) = true := beq_iff_eq.mpr c3
   have c3b1 : ((a1.size : Int) != 1) = false := bne_eq_false_iff_eq.mpr c3
   clear c3
   by_cases c4 : (a0.size : Int) > 4000
   · rw [if_pos c4] at H
     have c4b0 : decide (4000 < (a0.size : Int)) = true := decide_eq_true c4
     have c4b1 : decide (4000 < a0.size) = true := decide_eq_true (by omega)
     clear c4
     obtain ⟨y135, hy135⟩ : ∃ y_ : List ByteArray, y_ = (([] : List ByteArray)) := ⟨_, rfl⟩
     replace H : (some (y135, false)) = some (r1, r2) := by first | (rw [hy135]; with_reducible exact H) | (have H2_ := (Option.bind_some _ _).symm.trans H; rw [hy135]; with_reducible exact H2_) | (have H2_ := (Option.bind_some _ _).symm.trans H; with_reducible exact H2_) | with_reducible exact H | (rw [hy135]; exact H) | exact H
     have Ny135 := Aside0.mk hy135
     clear hy135
     simp only [Option.some.injEq, Prod.mk.injEq] at H
     obtain ⟨rfl, rfl⟩ := H
     go_enter Tryd.func12, Tryd.ntmps12
     go_wp2_with (first | ((with_reducible refine gate_dst (N := 14) rfl ?_); (try (refine gate_guard (by rfl) ?_; dsimp only)); refine Kd.R_lit Kd.string _ 9 ?hg (N := 14) ?hd (xs := ([] : List ByteArray)) (inner := []) (ok := fun _ => True) (okp := fun _ => True) ?hr ?hp (fun _ hk => hk) trivial (Below.refl _ _) (Nat.le_refl _) (by simp) ?_; (case hd => rfl); (case hg => rfl); (case hr => first | (go_simp; done) | (go_simp; rfl)); (case hp => exact (Reps.none _ _)); intro v136 w5 ho6 hb hg_ hnew_; clear hg_ hnew_; (first | rw [← Ny135.out] at ho6 | (simp only [Int.reduceToNat] at ho6; rw [← Ny135.out] at ho6)); have HO137 := zM (Kd.R_lower ho6 (below_size zB)); replace HB := zM (below_step zB hb); clear hb ho6))
     go_ret2
     exact ⟨_, by first | rfl | (simp [errW_none, errW_some] <;> rfl) | (simp [*, errW_none, errW_some] <;> rfl), by (with_reducible repeat (first | apply Kd.R_alloc | apply Kd.R_drewN | apply Kd.R_drew)); exact HO137.out, zB⟩
   · rw [if_neg c4] at H
     have c4b0 : decide (4000 < (a0.size : Int)) = false := decide_eq_false c4
     have c4b1 : decide (4000 < a0.size) = false := decide_eq_false (by omega)
     clear c4
     by_cases c7 : 0 < (a1.size : Int)
     · rw [if_pos c7] at H
       have c7b0 := decide_eq_true c7
       have c7b1 : decide (0 < a1.size) = true := decide_eq_true (by omega)
       clear c7
       replace H := Option.bind_eq_some_iff.mp H
       obtain ⟨t138, A90, H⟩ := H
       replace H : (some (t138, true)) = some (r1, r2) := H
       have A9 := Aside0.mk A90
       clear A90
       simp only [Option.some.injEq, Prod.mk.injEq] at H
       obtain ⟨rfl, rfl⟩ := H
       have p8 : 0 ≤ (0 : Int) := (by omega)
       have q8 : 0 < a1.size := (by have : (0 : Int) < (a1.size : Int) := of_decide_eq_true zA; omega)
       have hx8 : ∀ h : 0 < a1.size, ((a1[0]'h).toNat : Int) = bt a1 0 := bt_at a1 0
       clear p8
       have qi8 : (0 < (a1.size : Int)) = True := eq_true (of_decide_eq_true zA)
       replace q8 := eq_true q8
       go_enter Tryd.func12, Tryd.ntmps12
       go_wp2_with (first | ((with_reducible refine gate_callee (f := 38) rfl ?_); refine zc 18 Tryd.func38 #[.string a0, .int .u8 (bt a1 0)] ?_; (with_reducible refine (spec_l1Split.calls k a0 (bt a1 0) t138 _ A9.out).mono ?_); rintro e w10 ⟨v139, rfl, ho0, hb⟩; refine ⟨_, rfl, ?_⟩; have HO140 := zM (Kd.R_lower ho0 (below_size zB)); replace HB := zM (below_step zB hb); (try clear hb); (try clear hb2); (try clear hk); (try clear hi); (try clear ho0)))
       go_ret2
       exact ⟨_, by first | rfl | (simp [errW_none, errW_some] <;> rfl) | (simp [*, errW_none, errW_some] <;> rfl), by (with_reducible repeat (first | apply Kd.R_alloc | apply Kd.R_drewN | apply Kd.R_drew)); exact HO140.out, zB⟩
     · rw [if_neg c7] at H
       exact absurd H (by simp)
 · rw [if_neg c3] at H
   have c3b0 : ((a1.size : Int) == 1) = false := beq_eq_false_iff_ne.mpr c3
   have c3b1 : ((a1.size : Int) != 1) = true := bne_iff_ne.mpr c3
   obtain ⟨y141, hy141⟩ : ∃ y_ : List ByteArray, y_ = (([] : List ByteArray)) := ⟨_, rfl⟩
   replace H : (some (y141, false)) = some (r1, r2) := by first | (rw [hy141]; with_reducible exact H) | (have H2_ := (Option.bind_some _ _).symm.trans H; rw [hy141]; with_reducible exact H2_) | (have H2_ := (Option.bind_some _ _).symm.trans H; with_reducible exact H2_) | with_reducible exact H | (rw [hy141]; exact H) | exact H
   have Ny141 := Aside0.mk hy141
   clear hy141
   simp only [Option.some.injEq, Prod.mk.injEq] at H
   obtain ⟨rfl, rfl⟩ := H
   go_enter Tryd.func12, Tryd.ntmps12
   go_wp2_with (first | ((with_reducible refine gate_dst (N := 14) rfl ?_); (try (refine gate_guard (by rfl) ?_; dsimp only)); refine Kd.R_lit Kd.string _ 9 ?hg (N := 14) ?hd (xs := ([] : List ByteArray)) (inner := []) (ok := fun _ => True) (okp := fun _ => True) ?hr ?hp (fun _ hk => hk) trivial (Below.refl _ _) (Nat.le_refl _) (by simp) ?_; (case hd => rfl); (case hg => rfl); (case hr => first | (go_simp; done) | (go_simp; rfl)); (case hp => exact (Reps.none _ _)); intro v142 w11 ho12 hb hg_ hnew_; clear hg_ hnew_; (first | rw [← Ny141.out] at ho12 | (simp only [Int.reduceToNat] at ho12; rw [← Ny141.out] at ho12)); have HO143 := zM (Kd.R_lower ho12 (below_size zB)); replace HB := zM (below_step zB hb); clear hb ho12))
   go_ret2
   exact ⟨_, by first | rfl | (simp [errW_none, errW_some] <;> rfl) | (simp [*, errW_none, errW_some] <;> rfl), by (with_reducible repeat (first | apply Kd.R_alloc | apply Kd.R_drewN | apply Kd.R_drew)); exact HO143.out, zB⟩

-- NOT PRINTED: function 101 (bytealg_IndexByteString)

-- NOT PRINTED: function 86 (stringslite_IndexByte)

-- NOT PRINTED: function 87 (bytealg_IndexString)

end Go.Proofs.YtcjfmohmjhjpoaaDoor.P
namespace Go.Proofs.YtcjfmohmjhjpoaaDoor.P
open Go.RowKit Go.Proofs.YtcjfmohmjhjpoaaDoorW.PrintWords Go.Proofs.YtcjfmohmjhjpoaaDoorW.PrintLast Go.Proofs.YtcjfmohmjhjpoaaDoorW.PrintMore
theorem bt_nat (s : ByteArray) (m : Nat) (h : m < s.data.toList.length) : bt s (m : Int) = ((s.data.toList[m]).toNat : Int) := by
  have h2 : m < s.size := by rw [Array.length_toList] at h; exact h
  unfold bt
  rw [dif_pos (by rw [Int.toNat_natCast]; exact h2)]
  simp [ByteArray.getElem_eq_getElem_data]
theorem size_len (s : ByteArray) : s.size = s.data.toList.length := (Array.length_toList).symm
theorem toNat_inj (a b : UInt8) : ((a.toNat : Int) = (b.toNat : Int)) ↔ a = b := by
  constructor
  · intro h
    exact UInt8.toNat_inj.1 (by omega)
  · intro h; rw [h]
end Go.Proofs.YtcjfmohmjhjpoaaDoor.P
namespace Go.Proofs.YtcjfmohmjhjpoaaDoor.P
open Go.RowKit Go.Proofs.YtcjfmohmjhjpoaaDoorW.PrintWords Go.Proofs.YtcjfmohmjhjpoaaDoorW.PrintLast Go.Proofs.YtcjfmohmjhjpoaaDoorW.PrintMore
def pre (p : List UInt8) : List (List UInt8) → List (List UInt8)
  | [] => [p]
  | x :: xs => (p ++ x) :: xs
/-- The pieces between the bytes c. -/
def spl (c : UInt8) : List UInt8 → List (List UInt8)
  | [] => [[]]
  | b :: l => if b = c then [] :: spl c l else pre [b] (spl c l)
theorem pre_ne (p : List UInt8) (z : List (List UInt8)) : pre p z ≠ [] := by cases z <;> simp [pre]
theorem spl_ne (c : UInt8) (l : List UInt8) : spl c l ≠ [] := by
  cases l with
  | nil => simp [spl]
  | cons b l => rw [spl]; split; simp; exact pre_ne _ _
theorem pre_nil {z : List (List UInt8)} (h : z ≠ []) : pre [] z = z := by
  cases z with
  | nil => exact absurd rfl h
  | cons x xs => simp [pre]
theorem pre_pre (p q : List UInt8) (z : List (List UInt8)) : pre p (pre q z) = pre (p ++ q) z := by cases z <;> simp [pre]
theorem extract_str (s : ByteArray) (a b : Nat) : s.extract a b = str ((s.data.toList.take b).drop a) := by
  apply ByteArray.ext
  apply Array.ext'
  rw [ByteArray.data_extract, Array.toList_extract, List.extract_eq_take_drop, List.drop_take]
  rfl
theorem split_loop (s : ByteArray) (c : UInt8) (hs : s.size ≤ 1048576) (d : Nat) : ∀ (m from_ : Nat) (acc : List ByteArray), s.size - m = d → from_ ≤ m → m ≤ s.size → acc.length ≤ m →
    Ev (fun k => spec_l1Split.l0 k s (c.toNat : Int) acc (from_ : Int) (m : Int)) (acc ++ (pre ((s.data.toList.take m).drop from_) (spl c (s.data.toList.drop m))).map str) := by
  have hl := size_len s
  induction d with
  | zero =>
    intro m from_ acc h1 h2 h3 h4
    obtain rfl : m = s.size := by omega
    rw [List.drop_eq_nil_of_le (Nat.le_of_eq hl.symm), spl, pre, List.append_nil, List.map_singleton, ← extract_str]
    refine Ev.step (fun k => by rw [spec_l1Split.l0]) (Ev.neg (by omega) (Ev.pos (by omega) (Ev.pos (by omega) (Ev.pos (by omega) ?_))))
    rw [Int.toNat_natCast]
    exact Ev.now _
  | succ d ih =>
    intro m from_ acc h1 h2 h3 h4
    have hm : m < s.data.toList.length := by omega
    have hw := wrap_up (m := m) (n := s.size) (by omega) (by omega)
    rw [List.drop_eq_getElem_cons hm, spl]
    have ht : (s.data.toList.take (m + 1)).drop from_ = (s.data.toList.take m).drop from_ ++ [s.data.toList[m]] := by
      rw [List.take_succ_eq_append_getElem hm, List.drop_append_of_le_length (by rw [List.length_take]; omega)]
    by_cases h : s.data.toList[m] = c
    · rw [if_pos h, pre, List.append_nil, List.map_cons, ← extract_str]
      refine Ev.step (fun k => by rw [spec_l1Split.l0]) (Ev.pos (by omega) (Ev.pos (by omega) (Ev.pos ?_ (Ev.pos (by omega) (Ev.pos (by omega) (Ev.pos (by omega) (Ev.pos (by omega) ?_)))))))
      · rw [bt_nat s m hm]; exact (toNat_inj _ _).2 h
      · rw [hw, Int.toNat_natCast, Int.toNat_natCast]
        have := ih (m + 1) (m + 1) (acc ++ [s.extract from_ m]) (by omega) (Nat.le_refl _) (by omega) (by rw [List.length_append, List.length_singleton]; omega)
        rw [List.drop_eq_nil_of_le (by rw [List.length_take]; omega), pre_nil (spl_ne _ _), List.append_assoc, List.singleton_append] at this
        exact this
    · rw [if_neg h, pre_pre, ← ht]
      refine Ev.step (fun k => by rw [spec_l1Split.l0]) (Ev.pos (by omega) (Ev.pos (by omega) (Ev.neg ?_ ?_)))
      · rw [bt_nat s m hm]; exact fun e => h ((toNat_inj _ _).1 e)
      · rw [hw]
        exact ih (m + 1) from_ acc (by omega) (by omega) (by omega) (by omega)
theorem split_ev (s : ByteArray) (c : UInt8) (hs : s.size ≤ 1048576) : Ev (fun k => spec_l1Split.f k s (c.toNat : Int)) ((spl c s.data.toList).map str) := by
  have := split_loop s c hs _ 0 0 [] rfl (Nat.le_refl _) (Nat.zero_le _) (Nat.zero_le _)
  rw [List.take_zero, List.drop_zero, List.drop_zero, pre_nil (spl_ne _ _), List.nil_append] at this
  exact this
end Go.Proofs.YtcjfmohmjhjpoaaDoor.P
namespace Go.Proofs.YtcjfmohmjhjpoaaDoor.P
open Go.RowKit Go.Proofs.YtcjfmohmjhjpoaaDoorW.PrintWords Go.Proofs.YtcjfmohmjhjpoaaDoorW.PrintLast Go.Proofs.YtcjfmohmjhjpoaaDoorW.PrintMore
theorem markText_loop (n : Nat) : ∀ out : ByteArray, n ≤ 100000000 → out.size + n ≤ 200000000 → ∃ t, Ev (fun k => laws_markText.l0 k (n : Int) out) t := by
  induction n using Nat.strongRecOn with
  | _ n ih =>
    intro out h0 h1
    by_cases h : n = 0
    · subst h
      exact ⟨_, Ev.step (fun k => by rw [laws_markText.l0]) (Ev.neg (by decide) (Ev.pos (by omega) (Ev.now _)))⟩
    · have e1 : Int.tdiv (n : Int) 10 = ((n / 10 : Nat) : Int) := rfl
      have e3 : (strOfNums [(wrap64 (48 + (Int.tmod (n : Int) 10))) % 256]).size = 1 := rfl
      obtain ⟨t, ht⟩ := ih (n / 10) (by omega) (strOfNums [(wrap64 (48 + (Int.tmod (n : Int) 10))) % 256] ++ out) (by omega) (by rw [ByteArray.size_append, e3]; omega)
      refine ⟨t, Ev.step (fun k => by rw [laws_markText.l0]) (Ev.pos (by omega) ?_)⟩
      refine Ev.bindo rfl ?_
      refine Ev.pos (by rw [e3]; omega) ?_
      rw [e1, wrap_nat (m := ((n / 10 : Nat) : Int)) (by omega) (by omega)]
      exact ht
theorem markText_some (n : Nat) (h0 : 0 < n) (h : n ≤ 100000000) : ∃ t, Ev (fun k => laws_markText.f k (n : Int)) t := by
  obtain ⟨t, ht⟩ := markText_loop n ⟨#[]⟩ h (by rw [show (⟨#[]⟩ : ByteArray).size = 0 from rfl]; omega)
  exact ⟨t, by unfold laws_markText.f; exact Ev.neg (by omega) ht⟩
open Classical in
/-- The text of mark n. -/
noncomputable def mtext (n : Nat) : ByteArray := if h : ∃ t, Ev (fun k => laws_markText.f k (n : Int)) t then h.choose else ByteArray.empty
theorem mtext_ev (n : Nat) (h0 : 0 < n) (h : n ≤ 100000000) : Ev (fun k => laws_markText.f k (n : Int)) (mtext n) := by
  have h2 := markText_some n h0 h
  unfold mtext
  rw [dif_pos h2]
  exact h2.choose_spec
noncomputable def marksS (n : Nat) : List ByteArray := (List.range n).map fun i => mtext (i + 1)
theorem marksS_len (n : Nat) : (marksS n).length = n := by simp [marksS]
theorem marksS_succ (n : Nat) : marksS (n + 1) = marksS n ++ [mtext (n + 1)] := by simp [marksS, List.range_succ]
theorem marksS_at (n m : Nat) (h : m < n) : rdOf ByteArray.empty (marksS n) (m : Int) = mtext (m + 1) := by
  simp [rdOf, marksS, List.getD_eq_getElem?_getD, h]
theorem mark_loop (l : List ByteArray) (hl : l.length ≤ 1048577) (d : Nat) : ∀ m : Nat, l.length - m = d → m ≤ l.length → Ev (fun k => laws_markStringS.l0 k (marksS m ++ l.drop m) ((m + 1 : Nat) : Int) (m : Int)) (((l.length + 1 : Nat) : Int), marksS l.length) := by
  induction d with
  | zero =>
    intro m h1 h2
    obtain rfl : m = l.length := by omega
    rw [List.drop_eq_nil_of_le (Nat.le_refl _), List.append_nil]
    exact Ev.step (fun k => by rw [laws_markStringS.l0]) (Ev.neg (by rw [marksS_len]; omega) (Ev.now _))
  | succ d ih =>
    intro m h1 h2
    have hm : m < l.length := by omega
    have hlen : (marksS m ++ l.drop m).length = l.length := by rw [List.length_append, marksS_len, List.length_drop]; omega
    refine Ev.step (fun k => by rw [laws_markStringS.l0]) (Ev.pos (by rw [hlen]; omega) ?_)
    refine Ev.bind (mtext_ev (m + 1) (by omega) (by omega)) ?_
    refine Ev.pos (by omega) ?_
    rw [wrap_up (m := m + 1) (n := l.length + 1) (by omega) (by omega), wrap_up (m := m) (n := l.length) (by omega) (by omega), Int.toNat_natCast]
    have e : (marksS m ++ l.drop m).set m (mtext (m + 1)) = marksS (m + 1) ++ l.drop (m + 1) := by
      rw [List.drop_eq_getElem_cons hm, List.set_append_right _ _ (by rw [marksS_len]; exact Nat.le_refl _), marksS_len, Nat.sub_self, List.set_cons_zero, marksS_succ, List.append_assoc, List.singleton_append]
    rw [e]
    exact ih (m + 1) (by omega) (by omega)
theorem markS_ev (l : List ByteArray) (hl : l.length ≤ 1048577) : Ev (fun k => laws_markStringS.f k l 1) (((l.length + 1 : Nat) : Int), marksS l.length) := by
  have := mark_loop l hl _ 0 rfl (Nat.zero_le _)
  exact this
theorem held_loop (n : Nat) (hl : n ≤ 1048577) (d : Nat) : ∀ m : Nat, n - m = d → m ≤ n → Ev (fun k => laws_heldStringS.l0 k (marksS n) ((m + 1 : Nat) : Int) (m : Int)) ((n + 1 : Nat) : Int) := by
  induction d with
  | zero =>
    intro m h1 h2
    obtain rfl : m = n := by omega
    exact Ev.step (fun k => by rw [laws_heldStringS.l0]) (Ev.neg (by rw [marksS_len]; omega) (Ev.now _))
  | succ d ih =>
    intro m h1 h2
    have hm : m < n := by omega
    refine Ev.step (fun k => by rw [laws_heldStringS.l0]) (Ev.pos (by rw [marksS_len]; omega) ?_)
    refine Ev.pos (by omega) ?_
    refine Ev.bind (mtext_ev (m + 1) (by omega) (by omega)) ?_
    refine Ev.pos (by rw [marksS_at n m hm]) ?_
    rw [wrap_up (m := m + 1) (n := n + 1) (by omega) (by omega), wrap_up (m := m) (n := n) (by omega) (by omega)]
    exact ih (m + 1) (by omega) (by omega)
theorem heldS_ev (n : Nat) (hl : n ≤ 1048577) : Ev (fun k => laws_heldStringS.f k (marksS n) 1) ((n + 1 : Nat) : Int) := held_loop n hl _ 0 rfl (Nat.zero_le _)
theorem eqS_loop (l : List ByteArray) (hl : l.length ≤ 1048577) (d : Nat) : ∀ m : Nat, l.length - m = d → m ≤ l.length → Ev (fun k => laws_eqStringS.l0 k l l (m : Int)) true := by
  induction d with
  | zero =>
    intro m h1 h2
    exact Ev.step (fun k => by rw [laws_eqStringS.l0]) (Ev.neg (by omega) (Ev.now _))
  | succ d ih =>
    intro m h1 h2
    refine Ev.step (fun k => by rw [laws_eqStringS.l0]) (Ev.pos (by omega) (Ev.pos (by omega) (Ev.pos (by omega) (Ev.pos rfl ?_))))
    rw [wrap_up (m := m) (n := l.length) (by omega) (by omega)]
    exact ih (m + 1) (by omega) (by omega)
theorem eqS_ev (l : List ByteArray) (hl : l.length ≤ 1048577) : Ev (fun k => laws_eqStringS.f k l l) true := by
  unfold laws_eqStringS.f
  exact Ev.pos rfl (eqS_loop l hl _ 0 rfl (Nat.zero_le _))
/-! The split. -/
theorem spl_len (c : UInt8) (l : List UInt8) : (spl c l).length = Lib.count l [c] + 1 := by
  induction l with
  | nil => simp [spl, Lib.count_one]
  | cons b l ih =>
    rw [spl]
    by_cases h : b = c
    · subst h
      rw [if_pos rfl, List.length_cons, ih, Lib.count_cons_eq]; omega
    · rw [if_neg h, Lib.count_cons_ne b c l h, ← ih]
      cases hz : spl c l with
      | nil => exact absurd hz (spl_ne _ _)
      | cons x xs => simp [pre]
theorem splitK_spl (c : UInt8) (l : List UInt8) : Lib.splitK [c] 0 (Lib.count l [c]) l = spl c l := by
  induction l with
  | nil => simp [spl, Lib.count_one, Lib.splitK]
  | cons b l ih =>
    have hg := Lib.indexByte_ge l c
    have hx : Lib.index (b :: l) [c] = if b = c then 0 else if Lib.indexByte l c = -1 then -1 else Lib.indexByte l c + 1 := by
      rw [Lib.index_one, Lib.indexByte]
      simp only [beq_iff_eq]
    rw [spl]
    by_cases h : b = c
    · subst h
      rw [if_pos rfl] at hx
      rw [if_pos rfl, Lib.count_cons_eq, Nat.add_comm, Lib.splitK, hx, if_neg (by decide)]
      simp [ih]
    · rw [if_neg h] at hx
      rw [if_neg h, Lib.count_cons_ne b c l h]
      by_cases hm : Lib.indexByte l c = -1
      · have hc : Lib.count l [c] = 0 := Lib.count_miss (by rw [Lib.index_one]; exact hm)
        rw [hc] at ih ⊢
        rw [← ih]
        simp [Lib.splitK, pre]
      · rw [if_neg hm] at hx
        obtain ⟨j, hj⟩ : ∃ j : Nat, Lib.indexByte l c = j := ⟨(Lib.indexByte l c).toNat, by omega⟩
        have hc := Lib.count_hit (s := l) (sub := [c]) (i := j) (by simp) (by rw [Lib.index_one]; exact hj)
        rw [hc, Nat.add_comm, Lib.splitK] at ih ⊢
        rw [hx, hj, if_neg (show ¬ ((j : Int) + 1 == -1) = true from fun e => by have := beq_iff_eq.1 e; omega)]
        rw [Lib.index_one, hj, if_neg (show ¬ ((j : Int) == -1) = true from fun e => by have := beq_iff_eq.1 e; omega)] at ih
        rw [← ih, show ((j : Int) + 1).toNat = j + 1 by omega, Int.toNat_natCast, pre]
        simp
/-- What SplitString answers. -/
def splitR (s p : ByteArray) : List ByteArray × Bool := if p.size = 1 ∧ s.size ≤ 4000 then ((spl (p.data.toList.headD 0) s.data.toList).map str, true) else ([], false)
theorem spl_le (c : UInt8) (l : List UInt8) : (spl c l).length ≤ l.length + 1 := by
  induction l with
  | nil => simp [spl]
  | cons b l ih =>
    rw [spl]
    by_cases h : b = c
    · rw [if_pos h, List.length_cons, List.length_cons]; omega
    · rw [if_neg h]
      cases hz : spl c l with
      | nil => exact absurd hz (spl_ne _ _)
      | cons x xs => rw [hz] at ih; simp only [pre, List.length_cons] at ih ⊢; omega
theorem splitR_len (s p : ByteArray) : (splitR s p).1.length ≤ 4001 := by
  unfold splitR
  split
  · next h =>
    rw [List.length_map]
    have := spl_le (p.data.toList.headD 0) s.data.toList
    have := size_len s
    omega
  · exact Nat.zero_le _
theorem spec_SplitString_ev (s p : ByteArray) (hs : s.size ≤ 1048576) (hp : p.size ≤ 1048576) : Ev (fun k => spec_SplitString.f k s p) (splitR s p) := by
  unfold spec_SplitString.f
  by_cases h1 : p.size = 1
  · refine Ev.pos (by omega) ?_
    by_cases h2 : s.size ≤ 4000
    · rw [show splitR s p = _ from if_pos ⟨h1, h2⟩]
      refine Ev.neg (by omega) (Ev.pos (by omega) ?_)
      obtain ⟨c, rfl⟩ := Lib.one_byte p h1
      have e : bt ⟨#[c]⟩ 0 = (c.toNat : Int) := rfl
      rw [e]
      exact Ev.bind (split_ev s c hs) (Ev.now _)
    · rw [show splitR s p = _ from if_neg (fun h => h2 h.2)]
      exact Ev.pos (by omega) (Ev.now _)
  · rw [show splitR s p = _ from if_neg (fun h => h1 h.1)]
    exact Ev.neg (by omega) (Ev.now _)
end Go.Proofs.YtcjfmohmjhjpoaaDoor.P
namespace Go.Proofs.YtcjfmohmjhjpoaaDoor.P
open Go.RowKit Go.Proofs.YtcjfmohmjhjpoaaDoorW.PrintWords Go.Proofs.YtcjfmohmjhjpoaaDoorW.PrintLast Go.Proofs.YtcjfmohmjhjpoaaDoorW.PrintMore
theorem splitB_spl (c : UInt8) (s : ByteArray) : Lib.splitB ⟨#[c]⟩ 0 (Lib.countB s ⟨#[c]⟩) s = (spl c s.data.toList).map str := by
  have h := Lib.splitB_data ⟨#[c]⟩ 0 (Lib.countB s ⟨#[c]⟩) s
  have h2 : Lib.splitK [c] 0 (Lib.countB s ⟨#[c]⟩) s.data.toList = spl c s.data.toList := splitK_spl c s.data.toList
  rw [← h2, ← h, List.map_map]
  have e : (str ∘ fun x : ByteArray => x.data.toList) = id := by
    funext x
    exact str_data x
  rw [e, List.map_id]
theorem split_calls (s : ByteArray) (c : UInt8) (hs : s.size ≤ 1048576) (m : Int) (w : World) (hm : w.cell? ⟨0, 0, none⟩ = some (.int .i64 m)) :
    Calls Tryd.prog 39 #[.string s, .string ⟨#[c]⟩] w fun e w' => ∃ v0 : Value, e = .returned v0 ∧ Kd.R Kd.string 9 w' w.heap.size (fun _ => True) v0 ((spl c s.data.toList).map str) ∧ Below w.heap.size w w' := by
  refine (Tryd.strings_Split s ⟨#[c]⟩ m w (by omega) hm (Nat.le_refl 1)).mono fun e w' h => ?_
  obtain ⟨rfl, rfl⟩ := h
  have hl : (spl c s.data.toList).length = Lib.countB s ⟨#[c]⟩ + 1 := spl_len c s.data.toList
  have hle := spl_le c s.data.toList
  have hsz := size_len s
  refine ⟨_, rfl, ?_, below_alloc (Below.refl _ _) _⟩
  rw [splitB_spl]
  refine Kd.R_of_own (enc := Value.string) ?_ (fun _ _ => trivial)
  refine ⟨by rw [encs_length, List.length_map, Nat.mul_one], .inr ⟨w.heap.size, Lib.countB s ⟨#[c]⟩ + 1, (((spl c s.data.toList).map str).map Value.string).toArray, by rw [List.length_map, hl], Nat.le_refl _, ?_, by rw [List.length_map, hl]; exact Nat.le_refl _, ?_, ?_, ?_⟩⟩
  · exact blk_new w _
  · rw [← hl]
    have : maxLen = 9223372036854775807 := by decide
    omega
  · simp [hl]
  · rw [Nat.mul_one, List.take_of_length_le (by simp)]
    rfl
set_option maxRecDepth 100000 in
set_option maxHeartbeats 2000000 in
theorem impl_SplitString_calls (s p : ByteArray) (hs : s.size ≤ 1048576) (hp : p.size ≤ 1048576) (m : Int) (w : World) (hm : w.cell? ⟨0, 0, none⟩ = some (.int .i64 m)) :
    Calls Tryd.prog 13 #[.string s, .string p] w fun e w' => ∃ v0 : Value, e = .returned (.tuple #[v0, .bool (splitR s p).2]) ∧ Kd.R Kd.string 9 w' w.heap.size (fun _ => True) v0 (splitR s p).1 ∧ Below w.heap.size w w' := by
  have HB := zM (Below.refl w.heap.size w)
  by_cases h2 : s.size ≤ 4000
  case neg =>
    rw [show splitR s p = ([], false) from if_neg (fun h => h2 h.2)]
    have c1 : decide ((s.size : Int) > 4000) = true := decide_eq_true (by omega)
    have c2 : decide (4000 < s.size) = true := decide_eq_true (by omega)
    have c3 : decide ((4000 : Int) < (s.size : Int)) = true := decide_eq_true (by omega)
    go_enter Tryd.func13, Tryd.ntmps13
    go_wp2
    go_ret2
    exact ⟨_, by first | rfl | (simp; done), Kd.R_nil _ _ _ _ _, by first | exact HB.out | exact below_drew HB.out⟩
  have c1 : decide ((s.size : Int) > 4000) = false := decide_eq_false (by omega)
  have c2 : decide (4000 < s.size) = false := decide_eq_false (by omega)
  have c3 : decide ((4000 : Int) < (s.size : Int)) = false := decide_eq_false (by omega)
  by_cases h1 : p.size = 1
  · obtain ⟨c, rfl⟩ := Lib.one_byte p h1
    rw [show splitR s ⟨#[c]⟩ = ((spl c s.data.toList).map str, true) from if_pos ⟨rfl, h2⟩]
    have d1 : (((⟨#[c]⟩ : ByteArray).size : Int) != 1) = false := rfl
    have d2 : (⟨#[c]⟩ : ByteArray).size = 1 := rfl
    go_enter Tryd.func13, Tryd.ntmps13
    go_wp2_with (go_at_call 39; refine (split_calls s c hs m _ (pw_cell_below HB.out hm)).mono ?_; rintro e w' ⟨v0, rfl, ho, hb⟩; have HO := zM (Kd.R_lower ho (below_size HB.out)); replace HB := zM (below_step HB.out hb); clear ho hb)
    go_ret2
    exact ⟨_, by first | rfl | (simp; done), HO.out, HB.out⟩
  · rw [show splitR s p = ([], false) from if_neg (fun h => h1 h.1)]
    have d1 : ((p.size : Int) != 1) = true := bne_iff_ne.mpr (by omega)
    have d2 : ((p.size : Int) == 1) = false := beq_eq_false_iff_ne.mpr (by omega)
    have d3 : (p.size == 1) = false := beq_eq_false_iff_ne.mpr h1
    have d4 : (p.size != 1) = true := bne_iff_ne.mpr h1
    have d5 : decide (p.size = 1) = false := decide_eq_false h1
    have d6 : decide ((p.size : Int) = 1) = false := decide_eq_false (by omega)
    go_enter Tryd.func13, Tryd.ntmps13
    go_wp2
    go_ret2
    exact ⟨_, by first | rfl | (simp; done), Kd.R_nil _ _ _ _ _, by first | exact HB.out | exact below_drew HB.out⟩
theorem held_calls (k : Nat) (A : Option Addr) (c : Nat) (M : List ByteArray) (n : Nat) (hn : M.length = n) (Q : Int) (w : World) (h1 : Kd.C Kd.string w A M.length M) (h2 : n ≤ c) (h : laws_heldStringS.f k M 1 = some Q) :
    Calls Tryd.prog 16 #[.slice A n c, .int .i64 1] w fun e w' => e = .returned (.int .i64 Q) ∧ Below w.heap.size w w' := by
  subst hn
  exact laws_heldStringS.calls k A c M 1 Q w h1 h2 h
end Go.Proofs.YtcjfmohmjhjpoaaDoor.P
