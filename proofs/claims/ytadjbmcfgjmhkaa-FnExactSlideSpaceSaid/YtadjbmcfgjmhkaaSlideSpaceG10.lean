-- Written by a program of this session (the kit's print, turned: wip/print/patch.py) out of the translation. Not trusted: Lean checks it.
import Derived.Test.YtadjbmcfgjmhkaaSlideSpaceG5
import Derived.Test.YtadjbmcfgjmhkaaSlideSpaceG8
namespace Go.Proofs.Ytadjbmcfgjmhkaa.P
open Go.RowKit Go.Proofs.YtadjbmcfgjmhkaaW.PrintWords Go.Proofs.YtadjbmcfgjmhkaaW.PrintLast Go.Proofs.YtadjbmcfgjmhkaaW.PrintMore
attribute [local go_sem] max2_int min2_int max_two min_two max_three min_three max_four min_four   -- for this text's walks alone
set_option linter.unusedVariables false
set_option linter.unusedSimpArgs false

theorem eqIt_cons70 {d : Nat} {e c : Nat} {xs ys : Array Value} {i : Nat} {is : List Nat} {a b : Value} {r s : Bool} {w : World} (ha : (part e xs (i * c)).run Try.prog w = .ok a w) (hb : (part e ys (i * c)).run Try.prog w = .ok b w) (he : (Op.equalIn d e a b).run Try.prog w = .ok r w) (hr : (Op.eqItems d e c xs ys is).run Try.prog w = .ok s w) : (Op.eqItems d e c xs ys (i :: is)).run Try.prog w = .ok (r && s) w := by
 rw [Op.eqItems]
 simp only [Sem.run_bind, ha, hb, he, Result.andThen_ok]
 cases r
 · simp
 · simpa using hr
theorem eqIt_last70 {d : Nat} {e c : Nat} {xs ys : Array Value} {i : Nat} {a b : Value} {r : Bool} {w : World} (ha : (part e xs (i * c)).run Try.prog w = .ok a w) (hb : (part e ys (i * c)).run Try.prog w = .ok b w) (he : (Op.equalIn d e a b).run Try.prog w = .ok r w) : (Op.eqItems d e c xs ys [i]).run Try.prog w = .ok r w := by
 have h := eqIt_cons70 (is := []) (s := true) ha hb he (by simp [Op.eqItems])
 rwa [Bool.and_true] at h
theorem eqA70 (d : Nat) (w : World) (x0 x1 y0 y1 : Int) :
 (Op.equalIn (d + 2) 70 (.agg #[.int .i64 x0, .int .i64 x1]) (.agg #[.int .i64 y0, .int .i64 y1])).run Try.prog w = .ok (x0 == y0 && (x1 == y1)) w := by
 obtain ⟨i_, hi_⟩ := Option.isSome_iff_exists.1 (by kernel_rfl : (Try.prog.info? 3).isSome = true)
 rw [show d + 2 = (d + 1) + 1 from rfl, run_equalIn_array w (d + 1) _ _ Try.underlying70 hi_, show Try.prog.cellsOf 3 = 1 from by kernel_rfl, show List.range 2 = [0, 1] from rfl]
 refine eqIt_cons70 (by go_simp; rfl) (by go_simp; rfl) (by go_simp) ?_
 exact eqIt_last70 (by go_simp; rfl) (by go_simp; rfl) (by go_simp)
end Go.Proofs.Ytadjbmcfgjmhkaa.P
namespace Go.Proofs.Ytadjbmcfgjmhkaa.P
open Go.RowKit Go.Proofs.YtadjbmcfgjmhkaaW.PrintWords Go.Proofs.YtadjbmcfgjmhkaaW.PrintLast Go.Proofs.YtadjbmcfgjmhkaaW.PrintMore
attribute [local go_sem] max2_int min2_int max_two min_two max_three min_three max_four min_four   -- for this text's walks alone
set_option linter.unusedVariables false
set_option linter.unusedSimpArgs false

attribute [local go_sem high] eqA70
/-! ### spec_l2Bits: function 63 -/
def spec_l2Bits.l0 : Nat → Int → Int → List Int → Int → Option (List Int)
 | 0, _, _, _, _ => none
 | k + 1, x0, x1, x5, x6 => if x6 < x0 then (if 0 ≤ x6 then (if (Go.bits .and .i64 (shr .i64 x1 x6) 1) = 1 then (if x5.length < 17592186044416 then (spec_l2Bits.l0 k x0 x1 (x5 ++ [x6]) (wrap64 (x6 + 1))) else (none)) else (spec_l2Bits.l0 k x0 x1 x5 (wrap64 (x6 + 1)))) else (none)) else (some x5)
def spec_l2Bits.f (k : Nat) (a0 : Int) (a1 : Int) : Option (List Int) := spec_l2Bits.l0 k a0 a1 (([] : List Int)) 0
set_option maxHeartbeats 8000000 in
set_option maxRecDepth 100000 in
theorem spec_l2Bits.calls (k : Nat) (a0 : Int) (a1 : Int) (r : List Int) (w : World) (h : spec_l2Bits.f k a0 a1 = some r) :
 Calls Try.prog 63 #[.int .i64 a0, .int .i64 a1] w fun e w' => ∃ v0_ : Value, e = .returned (v0_) ∧ Kd.R (Kd.int .i64) 3 w' w.heap.size (fun _ => True) v0_ r ∧ Below w.heap.size w w' := by
 have HB := zM (Below.refl w.heap.size w)
 have H : (spec_l2Bits.l0 k a0 a1 (([] : List Int)) 0) = some r := h
 clear h
 obtain ⟨y247, hy247⟩ : ∃ y_ : List Int, y_ = (([] : List Int)) := ⟨_, rfl⟩
 replace H : (spec_l2Bits.l0 k a0 a1 y247 0) = some r := by first | (rw [hy247]; with_reducible exact H) | (have H2_ := (Option.bind_some _ _).symm.trans H; rw [hy247]; with_reducible exact H2_) | (have H2_ := (Option.bind_some _ _).symm.trans H; with_reducible exact H2_) | with_reducible exact H | (rw [hy247]; exact H) | exact H
 have Ny247 := Aside0.mk hy247
 clear hy247
 have H' := Aside0.mk H
 clear H
 go_enter Try.func63, Try.ntmps63
 go_wp2_with (first | ((with_reducible refine gate_dst (N := 7) rfl ?_); refine Kd.R_lit (Kd.int .i64) _ 3 ?hg (N := 7) ?hd (xs := ([] : List Int)) (inner := []) (ok := fun _ => True) (okp := fun _ => True) ?hr ?hp (fun _ hk => hk) trivial (Below.refl _ _) (Nat.le_refl _) (by simp) ?_; (case hd => rfl); (case hg => rfl); (case hr => first | (go_simp; done) | (go_simp; rfl)); (case hp => exact (Reps.none _ _)); intro v248 w3 ho4 hb hg_ hnew_; clear hg_ hnew_; (first | rw [← Ny247.out] at ho4 | (simp only [Int.reduceToNat] at ho4; rw [← Ny247.out] at ho4)); have HO249 := zM (Kd.R_lower ho4 (below_size zB)); replace HB := zM (below_step zB hb); clear hb ho4))
 go_loopg [5, 6] k (fun kq v5 v6 w' => ∃ (x5_1 : List Int) (x6_1 : Int), v6 = .int .i64 x6_1 ∧ Aside0 (spec_l2Bits.l0 kq a0 a1 x5_1 x6_1 = some r) ∧ Aside0 (kq ≤ k) ∧ Aside0 (Kd.R (Kd.int .i64) 3 w' w.heap.size (fun _ => True) v5 x5_1) ∧ Aside0 (Below w.heap.size w w'))
 case atStart => exact ⟨(y247), (0), (by first | rfl | (simp; done) | (simp [*]; done)), H', ⟨Nat.le_refl _⟩, ⟨zR HO249.out⟩, ⟨zB⟩⟩
 case round =>
  clear H'
  try clear p2
  obtain ⟨x5_1, x6_1, rfl, HA, HK1, HO_5, HB⟩ := hrel
  cases gk with
  | zero => exact absurd HA.out (by simp [spec_l2Bits.l0])
  | succ k1 =>
   have H := HA.out
   clear HA
   simp only [spec_l2Bits.l0] at H
   by_cases c5 : x6_1 < a0
   · rw [if_pos c5] at H
     have c5b0 := decide_eq_true c5
     clear c5
     by_cases c6 : 0 ≤ x6_1
     · rw [if_pos c6] at H
       have c6b0 := eq_true c6
       have c6b1 : decide (0 ≤ x6_1) = true := decide_eq_true c6
       clear c6
       obtain ⟨ji7, hji7⟩ : ∃ j_ : Int, (shr .i64 a1 x6_1) = j_ := ⟨_, rfl⟩
       replace H : (if (Go.bits .and .i64 (ji7) 1) = 1 then (if x5_1.length < 17592186044416 then (spec_l2Bits.l0 k1 a0 a1 (x5_1 ++ [x6_1]) (wrap64 (x6_1 + 1))) else (none)) else (spec_l2Bits.l0 k1 a0 a1 x5_1 (wrap64 (x6_1 + 1)))) = some r := by first | (rw [hji7] at H; exact H) | (simp only [hji7] at H ⊢; exact H)
       have hji7_ : (a1 / 2 ^ min x6_1.toNat 64) = ji7 := hji7
       have hji7z : x6_1 ≤ 64 → (a1 / 2 ^ x6_1.toNat) = ji7 := shr_small hji7
       by_cases c8 : (Go.bits .and .i64 (ji7) 1) = 1
       · rw [if_pos c8] at H
         have c8b0 : ((Go.bits .and .i64 (ji7) 1) == 1) = true := beq_iff_eq.mpr c8
         have c8b1 : ((Go.bits .and .i64 (ji7) 1) != 1) = false := bne_eq_false_iff_eq.mpr c8
         clear c8
         by_cases c9 : x5_1.length < 17592186044416
         · rw [if_pos c9] at H
           have LMc9 := Aside0.mk c9
           clear c9
           obtain ⟨y250, hy250⟩ : ∃ y_ : List Int, y_ = (x5_1 ++ [x6_1]) := ⟨_, rfl⟩
           replace H : (spec_l2Bits.l0 k1 a0 a1 y250 (wrap64 (x6_1 + 1))) = some r := by first | (rw [hy250]; with_reducible exact H) | (have H2_ := (Option.bind_some _ _).symm.trans H; rw [hy250]; with_reducible exact H2_) | (have H2_ := (Option.bind_some _ _).symm.trans H; with_reducible exact H2_) | with_reducible exact H | (rw [hy250]; exact H) | exact H
           have Ny250 := Aside0.mk hy250
           clear hy250
           have H' := Aside0.mk H
           clear H
           go_wp2_with (first | ((with_reducible refine gate_builtin (b := .append) (xs := #[.tmp 18, .tmp 20]) rfl ?_); at_builtin; refine Kd.R_append (Kd.int .i64) (w0 := w) w.heap.size rfl (.tmp 18) (.tmp 20) 39 3 (.int .i64 0) 8 rfl Try.underlying39 info3 rfl (by decide) (by omega) u5 x5_1 x6_1 [.int .i64 x6_1] (fun _ => True) (fun _ => False) rfl rfl ?aP (fun _ hk => hk.elim) ?aF ?aO ?aB ?aS ?aL ?_; (case aP => exact rfl); (case aB => exact zB); (case aF => exact (fun _ _ => trivial)); (case aO => exact (zR HO_5.out)); (case aS => exact (below_size zB)); (case aL => have := LMc9.out; omega); intro v251 w10 ho hb hg hat; rw [← Ny250.out] at ho; replace HB := zM (hb); have HO252 := zM (ho); clear HO_5; clear ho hb hg hat))
           go_roundg k1
           case measure => have := HK1.out; omega
           case rel => exact ⟨(y250), (wrap64 (x6_1 + 1)), (by first | rfl | (simp; done) | (simp [*]; done)), H', ⟨by have := HK1.out; omega⟩, ⟨zR HO252.out⟩, ⟨zB⟩⟩
         · rw [if_neg c9] at H
           exact absurd H (by simp)
       · rw [if_neg c8] at H
         have c8b0 : ((Go.bits .and .i64 (ji7) 1) == 1) = false := beq_eq_false_iff_ne.mpr c8
         have c8b1 : ((Go.bits .and .i64 (ji7) 1) != 1) = true := bne_iff_ne.mpr c8
         have H' := Aside0.mk H
         clear H
         go_wp2
         go_roundg k1
         case measure => have := HK1.out; omega
         case rel => exact ⟨(x5_1), (wrap64 (x6_1 + 1)), (by first | rfl | (simp; done) | (simp [*]; done)), H', ⟨by have := HK1.out; omega⟩, ⟨zR HO_5.out⟩, ⟨zB⟩⟩
     · rw [if_neg c6] at H
       exact absurd H (by simp)
   · rw [if_neg c5] at H
     have c5b0 : decide (x6_1 < a0) = false := decide_eq_false c5
     clear c5
     obtain rfl := Option.some.inj H
     go_wp2
     go_ret
     exact ⟨_, by first | rfl | (simp [errW_none, errW_some] <;> rfl) | (simp [*, errW_none, errW_some] <;> rfl), by (with_reducible repeat (first | apply Kd.R_alloc | apply Kd.R_drewN | apply Kd.R_drew)); exact HO_5.out, zB⟩

/-! ### slices_Index_2_int_2_int: function 131 -/
def slices_Index_2_int_2_int.l0 : Nat → List (S70) → Int → Int → Int → Int → Option (Int)
 | 0, _, _, _, _, _ => none
 | k + 1, x0, x7, x8, x254000, x254001 => if x8 < x7 then (if 0 ≤ x8 then (if x8 < (x0.length : Int) then (if (x254000 == ((rd_T70 x0 x8).f0) && (x254001 == ((rd_T70 x0 x8).f1))) = true then (some x8) else (slices_Index_2_int_2_int.l0 k x0 x7 (wrap64 (x8 + 1)) x254000 x254001)) else (none)) else (none)) else (some (-1))
def slices_Index_2_int_2_int.f (k : Nat) (l0 : List (S70)) (a1_0 : Int) (a1_1 : Int) : Option (Int) := slices_Index_2_int_2_int.l0 k l0 (l0.length : Int) 0 a1_0 a1_1
set_option maxHeartbeats 8000000 in
set_option maxRecDepth 100000 in
theorem slices_Index_2_int_2_int.calls (k : Nat) (A0 : Option Addr) (c0 : Nat) (l0 : List (S70)) (a1_0 : Int) (a1_1 : Int) (r : Int) (w : World) (hr0 : Kd.C k70 w A0 l0.length l0) (hc0 : l0.length ≤ c0) (h : slices_Index_2_int_2_int.f k l0 a1_0 a1_1 = some r) :
 Calls Try.prog 131 #[.slice A0 l0.length c0, .agg #[.int .i64 a1_0, .int .i64 a1_1]] w fun e w' => e = .returned (.int .i64 r) ∧ Below w.heap.size w w' := by
 have hu70 := Try.underlying70
 have HR0 := Aside0.mk hr0
 have HC0 := Aside0.mk hc0
 clear hr0 hc0
 have HB := zM (Below.refl w.heap.size w)
 have H : (slices_Index_2_int_2_int.l0 k l0 (l0.length : Int) 0 a1_0 a1_1) = some r := h
 clear h
 have H' := Aside0.mk H
 clear H
 go_enter Try.func131, Try.ntmps131
 go_wp2_with (first | ((with_reducible refine gate_dst (N := 3) rfl ?_); refine zb (w := w) 3 #[.int .i64 a1_0, .int .i64 a1_1] 70 zB ?_; clear HB; intro gb253 w3 HB BK253 GW253; have GE253 := GW253))
 repeat (go_quiet (first | ((with_reducible refine gate_dst (N := 3) rfl ?_); refine zb (w := w) 3 #[.int .i64 a1_0, .int .i64 a1_1] 70 zB ?_; clear HB; intro gb253 w3 HB BK253 GW253; have GE253 := GW253)); try go_wp2_with (first | ((with_reducible refine gate_dst (N := 3) rfl ?_); refine zb (w := w) 3 #[.int .i64 a1_0, .int .i64 a1_1] 70 zB ?_; clear HB; intro gb253 w3 HB BK253 GW253; have GE253 := GW253)))
 go_loopg [8] k (fun kq v8 w' => ∃ (x8_1 : Int), v8 = .int .i64 x8_1 ∧ Aside0 (slices_Index_2_int_2_int.l0 kq l0 (l0.length : Int) x8_1 a1_0 a1_1 = some r) ∧ Aside0 (kq ≤ k) ∧ Aside0 (w'.heap[gb253]? = some (.cells #[.int .i64 a1_0, .int .i64 a1_1] 70 (0, 0))) ∧ Aside0 (Below w.heap.size w w'))
 case atStart => exact ⟨(0), (by first | rfl | (simp; done) | (simp [*]; done)), H', ⟨Nat.le_refl _⟩, ⟨zK BK253.out⟩, ⟨zB⟩⟩
 case round =>
  clear H'
  try clear c1
  try clear p2
  obtain ⟨x8_1, rfl, HA, HK1, BK253, HB⟩ := hrel
  cases gk with
  | zero => exact absurd HA.out (by simp [slices_Index_2_int_2_int.l0])
  | succ k1 =>
   have H := HA.out
   clear HA
   simp only [slices_Index_2_int_2_int.l0] at H
   by_cases c4 : x8_1 < (l0.length : Int)
   · rw [if_pos c4] at H
     have c4b0 := decide_eq_true c4
     clear c4
     by_cases c5 : 0 ≤ x8_1
     · rw [if_pos c5] at H
       have c5b0 := decide_eq_true c5
       clear c5
       by_cases c6 : x8_1 < (l0.length : Int)
       · rw [if_pos c6] at H
         have c6b0 := decide_eq_true c6
         clear c6
         by_cases c7 : (a1_0 == ((rd_T70 l0 x8_1).f0) && (a1_1 == ((rd_T70 l0 x8_1).f1))) = true
         · rw [if_pos c7] at H
           have c7b0 : (a1_0 == ((rd_T70 l0 x8_1).f0) && (a1_1 == ((rd_T70 l0 x8_1).f1))) = true := c7
           (try (have c7b1 : decide (a1_0 = ((rd_T70 l0 x8_1).f0) && (a1_1 == ((rd_T70 l0 x8_1).f1))) = true := by simpa using c7))
           (try (have c7b2 : (a1_0 == ((rd_T70 l0 x8_1).f0) && (a1_1 == ((rd_T70 l0 x8_1).f1))) = true := by simpa using c7))
           clear c7
           obtain rfl := Option.some.inj H
           have hcz8_0 := zy BK253 0
           have hcz8_1 := zy BK253 1
           have hfz8_0 := blk_frozen BK253.out 0
           have hfz8_1 := blk_frozen BK253.out 1
           have p254 : 0 ≤ (x8_1 : Int) := of_decide_eq_true zA
           have q254 : x8_1 < (l0.length : Int) := of_decide_eq_true zA
           obtain ⟨ad254, e254, hx254_0, hx254_1⟩ := at_T70 HR0.out x8_1 p254 q254
           cases e254
           (try replace hx254_0 := (HB.out.cell (World.block_lt_of_cell? w _ hx254_0)).trans hx254_0)
           (try replace hx254_1 := (HB.out.cell (World.block_lt_of_cell? w _ hx254_1)).trans hx254_1)
           replace p254 := eq_true p254
           replace q254 := eq_true q254
           go_wp2
           repeat (go_quiet (fail); try go_wp2)
           go_ret
           exact ⟨by first | rfl | (simp [errW_none, errW_some] <;> rfl) | (simp [*, errW_none, errW_some] <;> rfl), zB⟩
         · rw [if_neg c7] at H
           have c7b0 : (a1_0 == ((rd_T70 l0 x8_1).f0) && (a1_1 == ((rd_T70 l0 x8_1).f1))) = false := by simpa using c7
           (try (have c7b1 : decide (a1_0 = ((rd_T70 l0 x8_1).f0) && (a1_1 == ((rd_T70 l0 x8_1).f1))) = false := by simpa using c7))
           (try (have c7b2 : (a1_0 == ((rd_T70 l0 x8_1).f0) && (a1_1 == ((rd_T70 l0 x8_1).f1))) = false := by simpa using c7))
           (try (have c7b3 : ¬ (a1_0 = ((rd_T70 l0 x8_1).f0) && (a1_1 == ((rd_T70 l0 x8_1).f1))) := by simpa using c7))
           clear c7
           have H' := Aside0.mk H
           clear H
           have hcz9_0 := zy BK253 0
           have hcz9_1 := zy BK253 1
           have hfz9_0 := blk_frozen BK253.out 0
           have hfz9_1 := blk_frozen BK253.out 1
           have p254 : 0 ≤ (x8_1 : Int) := of_decide_eq_true zA
           have q254 : x8_1 < (l0.length : Int) := of_decide_eq_true zA
           obtain ⟨ad254, e254, hx254_0, hx254_1⟩ := at_T70 HR0.out x8_1 p254 q254
           cases e254
           (try replace hx254_0 := (HB.out.cell (World.block_lt_of_cell? w _ hx254_0)).trans hx254_0)
           (try replace hx254_1 := (HB.out.cell (World.block_lt_of_cell? w _ hx254_1)).trans hx254_1)
           replace p254 := eq_true p254
           replace q254 := eq_true q254
           go_wp2
           repeat (go_quiet (fail); try go_wp2)
           go_roundg k1
           case measure => have := HK1.out; omega
           case rel => exact ⟨(wrap64 (x8_1 + 1)), (by first | rfl | (simp; done) | (simp [*]; done)), H', ⟨by have := HK1.out; omega⟩, ⟨zK BK253.out⟩, ⟨zB⟩⟩
       · rw [if_neg c6] at H
         exact absurd H (by simp)
     · rw [if_neg c5] at H
       exact absurd H (by simp)
   · rw [if_neg c4] at H
     have c4b0 : decide (x8_1 < (l0.length : Int)) = false := decide_eq_false c4
     clear c4
     obtain rfl := Option.some.inj H
     go_wp2
     repeat (go_quiet (fail); try go_wp2)
     go_ret
     exact ⟨by first | rfl | (simp [errW_none, errW_some] <;> rfl) | (simp [*, errW_none, errW_some] <;> rfl), zB⟩

/-! ### slices_Contains_2_int_2_int: function 110 -/
def slices_Contains_2_int_2_int.f (k : Nat) (l0 : List (S70)) (a1_0 : Int) (a1_1 : Int) : Option (Bool) := (slices_Index_2_int_2_int.f k l0 a1_0 a1_1).bind fun t256 => (some (decide (t256 ≥ 0)))
set_option maxHeartbeats 8000000 in
set_option maxRecDepth 100000 in
theorem slices_Contains_2_int_2_int.calls (k : Nat) (A0 : Option Addr) (c0 : Nat) (l0 : List (S70)) (a1_0 : Int) (a1_1 : Int) (r : Bool) (w : World) (hr0 : Kd.C k70 w A0 l0.length l0) (hc0 : l0.length ≤ c0) (h : slices_Contains_2_int_2_int.f k l0 a1_0 a1_1 = some r) :
 Calls Try.prog 110 #[.slice A0 l0.length c0, .agg #[.int .i64 a1_0, .int .i64 a1_1]] w fun e w' => e = .returned (.bool r) ∧ Below w.heap.size w w' := by
 have hu70 := Try.underlying70
 have HR0 := Aside0.mk hr0
 have HC0 := Aside0.mk hc0
 clear hr0 hc0
 have HB := zM (Below.refl w.heap.size w)
 have H : ((slices_Index_2_int_2_int.f k l0 a1_0 a1_1).bind fun t256 => (some (decide (t256 ≥ 0)))) = some r := h
 clear h
 replace H := Option.bind_eq_some_iff.mp H
 obtain ⟨t256, A30, H⟩ := H
 have A3 := Aside0.mk A30
 clear A30
 obtain rfl := Option.some.inj H
 go_enter Try.func110, Try.ntmps110
 go_wp2_with (first | ((with_reducible refine gate_dst (N := 3) rfl ?_); refine zb (w := w) 3 #[.int .i64 a1_0, .int .i64 a1_1] 70 zB ?_; clear HB; intro gb255 w4 HB BK255 GW255; have GE255 := GW255; have hcz5_0 := zy BK255 0; have hcz5_1 := zy BK255 1; have hfz5_0 := blk_frozen BK255.out 0; have hfz5_1 := blk_frozen BK255.out 1) | ((with_reducible refine gate_callee (f := 131) rfl ?_); refine zc 7 Try.func131 #[.slice A0 l0.length c0, .agg #[.int .i64 a1_0, .int .i64 a1_1]] ?_; (with_reducible refine (slices_Index_2_int_2_int.calls k _ _ l0 a1_0 a1_1 t256 _ ?side1 ?side2 A3.out).mono ?_); (case side1 => exact zC (Kd.C_below HR0.out HB.out)); (case side2 => exact HC0.out); rintro e w6 ⟨rfl, hb⟩; refine ⟨_, rfl, ?_⟩; replace BK255 := zM (blk_below (g := gb255) (o := .cells #[.int .i64 a1_0, .int .i64 a1_1] 70 (0, 0)) (zK BK255.out) hb); replace HB := zM (below_step zB hb); (try clear hb); (try clear hb2); (try clear hk); (try clear hi)))
 go_ret
 exact ⟨by first | rfl | (simp [errW_none, errW_some] <;> rfl) | (simp [*, errW_none, errW_some] <;> rfl), zB⟩

end Go.Proofs.Ytadjbmcfgjmhkaa.P
namespace Go.Proofs.Ytadjbmcfgjmhkaa.P
open Go.RowKit Go.Proofs.YtadjbmcfgjmhkaaW.PrintWords Go.Proofs.YtadjbmcfgjmhkaaW.PrintLast Go.Proofs.YtadjbmcfgjmhkaaW.PrintMore
attribute [local go_sem] max2_int min2_int max_two min_two max_three min_three max_four min_four   -- for this text's walks alone
set_option linter.unusedVariables false
set_option linter.unusedSimpArgs false

/-! ### impl_pair: function 111 -/
def impl_pair.f (a0 : Int) (a1 : Int) : Option (Int × Int) := some (mn a0 a1, mx a0 a1)
set_option maxHeartbeats 8000000 in
set_option maxRecDepth 100000 in
theorem impl_pair.calls (a0 : Int) (a1 : Int) (r1 : Int) (r2 : Int) (w : World) (h : impl_pair.f a0 a1 = some (r1, r2)) :
 Calls Try.prog 111 #[.int .i64 a0, .int .i64 a1] w fun e w' => e = .returned (.agg #[.int .i64 r1, .int .i64 r2]) ∧ Below w.heap.size w w' := by
 have hu70 := Try.underlying70
 have HB := zM (Below.refl w.heap.size w)
 have H : (some (mn a0 a1, mx a0 a1)) = some (r1, r2) := h
 clear h
 obtain ⟨ji3, hji3⟩ : ∃ j_ : Int, (mn a0 a1) = j_ := ⟨_, rfl⟩
 replace H : (some (ji3, mx a0 a1)) = some (r1, r2) := by first | (rw [hji3] at H; exact H) | (simp only [hji3] at H ⊢; exact H)
 have hji3_ : (if a1 < a0 then a1 else a0) = ji3 := hji3
 obtain ⟨ji4, hji4⟩ : ∃ j_ : Int, (mx a0 a1) = j_ := ⟨_, rfl⟩
 replace H : (some (ji3, ji4)) = some (r1, r2) := by first | (rw [hji4] at H; exact H) | (simp only [hji4] at H ⊢; exact H)
 have hji4_ : (if a0 < a1 then a1 else a0) = ji4 := hji4
 simp only [Option.some.injEq, Prod.mk.injEq] at H
 obtain ⟨rfl, rfl⟩ := H
 go_enter Try.func111, Try.ntmps111
 go_wp2_with (first | ((with_reducible refine gate_dst (N := 4) rfl ?_); refine zb (w := w) 4 #[.int .i64 0, .int .i64 0] 70 zB ?_; clear HB; intro gb257 w5 HB BK257 GW257; have GE257 := GW257; have hcz6_0 := zy BK257 0; have hcz6_1 := zy BK257 1; have hfz6_0 := blk_frozen BK257.out 0; have hfz6_1 := blk_frozen BK257.out 1))
 refine bodyPost_ret (results_cell_row rfl _ _ gb257 70 #[.int .i64 ji3, .int .i64 ji4] (0, 0) _ rfl (by (with_reducible repeat (first | refine blk_drewN ?_ _ | refine blk_drew ?_ | refine blk_alloc ?_ _)); refine blk_put (cs := #[.int .i64 ji3, .int .i64 0]) ?_ 1 _ rfl; (with_reducible repeat (first | refine blk_drewN ?_ _ | refine blk_drew ?_ | refine blk_alloc ?_ _)); refine blk_put (cs := #[.int .i64 0, .int .i64 0]) ?_ 0 _ rfl; (with_reducible repeat (first | refine blk_drewN ?_ _ | refine blk_drew ?_ | refine blk_alloc ?_ _)); exact BK257.out) Try.underlying70 rfl (by kernel_rfl)) rfl ?_
 exact ⟨by first | rfl | (simp [errW_none, errW_some] <;> rfl) | (simp only [← hji3, ← hji4]; first | rfl | (simp [errW_none, errW_some] <;> rfl)) | (simp [*, errW_none, errW_some] <;> rfl), zB⟩

end Go.Proofs.Ytadjbmcfgjmhkaa.P
namespace Go.Proofs.Ytadjbmcfgjmhkaa.P
open Go.RowKit Go.Proofs.YtadjbmcfgjmhkaaW.PrintWords Go.Proofs.YtadjbmcfgjmhkaaW.PrintLast Go.Proofs.YtadjbmcfgjmhkaaW.PrintMore
attribute [local go_sem] max2_int min2_int max_two min_two max_three min_three max_four min_four   -- for this text's walks alone
set_option linter.unusedVariables false
set_option linter.unusedSimpArgs false

/-! ### impl_Graph_has: function 85 -/
def impl_Graph_has.f (k : Nat) (a0_0 : Int) (l0_1 : List (S70)) (a1 : Int) (a2 : Int) : Option (Bool) := (impl_pair.f a1 a2).bind fun bt259 => ((slices_Contains_2_int_2_int.f k l0_1 bt259.1 bt259.2).bind fun t261 => (some t261))
set_option maxHeartbeats 8000000 in
set_option maxRecDepth 100000 in
theorem impl_Graph_has.calls (k : Nat) (a0_0 : Int) (A0_1 : Option Addr) (c0_1 : Nat) (l0_1 : List (S70)) (a1 : Int) (a2 : Int) (r : Bool) (w : World) (hr0_1 : Kd.C k70 w A0_1 l0_1.length l0_1) (hc0_1 : l0_1.length ≤ c0_1) (h : impl_Graph_has.f k a0_0 l0_1 a1 a2 = some r) :
 Calls Try.prog 85 #[.agg #[.int .i64 a0_0, .slice A0_1 l0_1.length c0_1], .int .i64 a1, .int .i64 a2] w fun e w' => e = .returned (.bool r) ∧ Below w.heap.size w w' := by
 have hu28 := Try.underlying28
 have HR0_1 := Aside0.mk hr0_1
 have HC0_1 := Aside0.mk hc0_1
 clear hr0_1 hc0_1
 have HB := zM (Below.refl w.heap.size w)
 have H : ((impl_pair.f a1 a2).bind fun bt259 => ((slices_Contains_2_int_2_int.f k l0_1 bt259.1 bt259.2).bind fun t261 => (some t261))) = some r := h
 clear h
 replace H := Option.bind_eq_some_iff.mp H
 obtain ⟨⟨t259, t260⟩, A40, H⟩ := H
 replace H : ((slices_Contains_2_int_2_int.f k l0_1 t259 t260).bind fun t261 => (some t261)) = some r := H
 have A4 := Aside0.mk A40
 clear A40
 replace H := Option.bind_eq_some_iff.mp H
 obtain ⟨t261, A50, H⟩ := H
 have A5 := Aside0.mk A50
 clear A50
 obtain rfl := Option.some.inj H
 go_enter Try.func85, Try.ntmps85
 try go_wp2_with (first | ((with_reducible refine gate_dst (N := 3) rfl ?_); refine zb (w := w) 3 #[.int .i64 a0_0, .slice A0_1 l0_1.length c0_1] 28 zB ?_; clear HB; intro gb258 w6 HB BK258 GW258; have GE258 := GW258))
 replace BK258 := zM (blk_drew BK258.out)
 replace HB := zM (below_drew1 HB.out)
 refine zs (n := 7) (fun w' => w'.cell? ⟨gb258, 0, none⟩ = some (.int .i64 a0_0) ∧ w'.cell? ⟨gb258, 1, none⟩ = some (.slice A0_1 l0_1.length c0_1)) ⟨(blk_cell BK258.out 0).trans rfl, (blk_cell BK258.out 1).trans rfl⟩ (fun hHeld => ?_)
 generalize w6.drew = w7 at BK258 HB hHeld ⊢
 refine zq 0 7 ?_
 refine zq 2 9 ?_
 refine zq 3 10 ?_
 refine zl 1 8 hHeld ?_ (hy := by rintro w' ⟨s0, s1⟩; go_simp; with_reducible rfl)
 refine zh 4 11 Try.func111 #[.int .i64 a1, .int .i64 a2] (fun K hK => ?_)
 with_reducible refine (impl_pair.calls a1 a2 t259 t260 _ A4.out).mono ?_
 rintro e w8 ⟨rfl, hb⟩
 refine ⟨_, rfl, ?_⟩
 replace BK258 := zM (blk_below (g := gb258) (o := .cells #[.int .i64 a0_0, .slice A0_1 l0_1.length c0_1] 28 (0, 0)) (zK BK258.out) hb)
 replace HB := zM (below_step zB hb)
 (try clear hb)
 (try clear hb2)
 (try clear hk)
 (try clear hi)
 refine hK.out _ _ ⟨(blk_cell BK258.out 0).trans rfl, (blk_cell BK258.out 1).trans rfl⟩ (fun hHeld => ?_)
 clear hK K
 refine zn 11 ?_
 refine zh 5 12 Try.func110 #[.slice A0_1 l0_1.length c0_1, .agg #[.int .i64 t259, .int .i64 t260]] (fun K hK => ?_)
 with_reducible refine (slices_Contains_2_int_2_int.calls k _ _ l0_1 t259 t260 t261 _ ?side1 ?side2 A5.out).mono ?_
 (case side1 => exact zC (Kd.C_below HR0_1.out HB.out))
 (case side2 => exact HC0_1.out)
 rintro e w9 ⟨rfl, hb⟩
 refine ⟨_, rfl, ?_⟩
 replace BK258 := zM (blk_below (g := gb258) (o := .cells #[.int .i64 a0_0, .slice A0_1 l0_1.length c0_1] 28 (0, 0)) (zK BK258.out) hb)
 replace HB := zM (below_step zB hb)
 (try clear hb)
 (try clear hb2)
 (try clear hk)
 (try clear hi)
 refine hK.out _ _ ⟨(blk_cell BK258.out 0).trans rfl, (blk_cell BK258.out 1).trans rfl⟩ (fun hHeld => ?_)
 clear hK K
 refine zn 12 ?_
 refine zq 6 6 ?_
 refine zx ?_
 try go_wp2
 go_ret
 exact ⟨by first | rfl | (simp [errW_none, errW_some] <;> rfl) | (simp [*, errW_none, errW_some] <;> rfl), zB⟩

/-! ### spec_l2Near: function 88 -/
def spec_l2Near.l0 : Nat → Int → Int → Int → Int → List (S70) → Option (Bool)
 | 0, _, _, _, _, _ => none
 | k + 1, x1, x2, x7, x271000, x271001 => if x7 < (x271001.length : Int) then (if 0 ≤ x7 then (if ((rd_T70 x271001 x7).f0) = x1 then (if ((rd_T70 x271001 x7).f1) = x2 then (some true) else (if ((rd_T70 x271001 x7).f0) = x2 then (if ((rd_T70 x271001 x7).f1) = x1 then (some true) else (spec_l2Near.l0 k x1 x2 (wrap64 (x7 + 1)) x271000 x271001)) else (spec_l2Near.l0 k x1 x2 (wrap64 (x7 + 1)) x271000 x271001))) else (if ((rd_T70 x271001 x7).f0) = x2 then (if ((rd_T70 x271001 x7).f1) = x1 then (some true) else (spec_l2Near.l0 k x1 x2 (wrap64 (x7 + 1)) x271000 x271001)) else (spec_l2Near.l0 k x1 x2 (wrap64 (x7 + 1)) x271000 x271001))) else (none)) else (some false)
def spec_l2Near.f (k : Nat) (a0_0 : Int) (l0_1 : List (S70)) (a1 : Int) (a2 : Int) : Option (Bool) := spec_l2Near.l0 k a1 a2 0 a0_0 l0_1
set_option maxHeartbeats 8000000 in
set_option maxRecDepth 100000 in
theorem spec_l2Near.calls (k : Nat) (a0_0 : Int) (A0_1 : Option Addr) (c0_1 : Nat) (l0_1 : List (S70)) (a1 : Int) (a2 : Int) (r : Bool) (w : World) (hr0_1 : Kd.C k70 w A0_1 l0_1.length l0_1) (hc0_1 : l0_1.length ≤ c0_1) (h : spec_l2Near.f k a0_0 l0_1 a1 a2 = some r) :
 Calls Try.prog 88 #[.agg #[.int .i64 a0_0, .slice A0_1 l0_1.length c0_1], .int .i64 a1, .int .i64 a2] w fun e w' => e = .returned (.bool r) ∧ Below w.heap.size w w' := by
 have hu28 := Try.underlying28
 have hu70 := Try.underlying70
 have HR0_1 := Aside0.mk hr0_1
 have HC0_1 := Aside0.mk hc0_1
 clear hr0_1 hc0_1
 have HB := zM (Below.refl w.heap.size w)
 have H : (spec_l2Near.l0 k a1 a2 0 a0_0 l0_1) = some r := h
 clear h
 have H' := Aside0.mk H
 clear H
 go_enter Try.func88, Try.ntmps88
 go_wp2_with (first | ((with_reducible refine gate_dst (N := 3) rfl ?_); refine zb (w := w) 3 #[.int .i64 a0_0, .slice A0_1 l0_1.length c0_1] 28 zB ?_; clear HB; intro gb270 w4 HB BK270 GW270; have GE270 := GW270))
 go_loopg [7] k (fun kq v7 w' => ∃ (x7_1 : Int), v7 = .int .i64 x7_1 ∧ Aside0 (spec_l2Near.l0 kq a1 a2 x7_1 a0_0 l0_1 = some r) ∧ Aside0 (kq ≤ k) ∧ Aside0 (w'.heap[gb270]? = some (.cells #[.int .i64 a0_0, (.slice A0_1 l0_1.length c0_1)] 28 (0, 0))) ∧ Aside0 (Below w.heap.size w w'))
 case atStart => exact ⟨(0), (by first | rfl | (simp; done) | (simp [*]; done)), H', ⟨Nat.le_refl _⟩, ⟨zK BK270.out⟩, ⟨zB⟩⟩
 case round =>
  clear H'
  try clear p2
  obtain ⟨x7_1, rfl, HA, HK1, BK270, HB⟩ := hrel
  cases gk with
  | zero => exact absurd HA.out (by simp [spec_l2Near.l0])
  | succ k1 =>
   have H := HA.out
   clear HA
   simp only [spec_l2Near.l0] at H
   by_cases c5 : x7_1 < (l0_1.length : Int)
   · rw [if_pos c5] at H
     have c5b0 := decide_eq_true c5
     clear c5
     by_cases c6 : 0 ≤ x7_1
     · rw [if_pos c6] at H
       have c6b0 := decide_eq_true c6
       clear c6
       by_cases c7 : ((rd_T70 l0_1 x7_1).f0) = a1
       · rw [if_pos c7] at H
         have c7b0 : (((rd_T70 l0_1 x7_1).f0) == a1) = true := beq_iff_eq.mpr c7
         have c7b1 : (((rd_T70 l0_1 x7_1).f0) != a1) = false := bne_eq_false_iff_eq.mpr c7
         clear c7
         by_cases c8 : ((rd_T70 l0_1 x7_1).f1) = a2
         · rw [if_pos c8] at H
           have c8b0 : (((rd_T70 l0_1 x7_1).f1) == a2) = true := beq_iff_eq.mpr c8
           have c8b1 : (((rd_T70 l0_1 x7_1).f1) != a2) = false := bne_eq_false_iff_eq.mpr c8
           clear c8
           obtain rfl := Option.some.inj H
           have hcz9_0 := zy BK270 0
           have hcz9_1 := zy BK270 1
           have hfz9_0 := blk_frozen BK270.out 0
           have hfz9_1 := blk_frozen BK270.out 1
           have p271 : 0 ≤ (x7_1 : Int) := of_decide_eq_true zA
           have q271 : x7_1 < (l0_1.length : Int) := of_decide_eq_true zA
           obtain ⟨ad271, e271, hx271_0, hx271_1⟩ := at_T70 HR0_1.out x7_1 p271 q271
           cases e271
           (try replace hx271_0 := (HB.out.cell (World.block_lt_of_cell? w _ hx271_0)).trans hx271_0)
           (try replace hx271_1 := (HB.out.cell (World.block_lt_of_cell? w _ hx271_1)).trans hx271_1)
           replace p271 := eq_true p271
           replace q271 := eq_true q271
           go_wp2_with (first | ((with_reducible refine gate_dst (N := 8) rfl ?_); refine ze 8 #[.int .i64 0, .int .i64 0] 70 ?_; intro gb272 hg w10 hbox hb; have BK272 := zM (hbox); have GW272 := zM ((by rw [hg]; exact (below_size zB) : w.heap.size ≤ gb272)); have GE272 := zM ((by rw [hg]; exact (below_size zB) : w.heap.size ≤ gb272)); replace HB := zM (below_step zB hb); have NB270_272 := zM ((by rw [hg]; exact Nat.ne_of_lt (blk_lt (g := gb270) (o := .cells #[.int .i64 a0_0, .slice (some ad271) l0_1.length c0_1] 28 (0, 0)) (zK BK270.out)) : gb270 ≠ gb272)); have NB272_270 := zM ((by rw [hg]; exact Nat.ne_of_gt (blk_lt (g := gb270) (o := .cells #[.int .i64 a0_0, .slice (some ad271) l0_1.length c0_1] 28 (0, 0)) (zK BK270.out)) : gb272 ≠ gb270)); replace BK270 := zM (blk_below (g := gb270) (o := .cells #[.int .i64 a0_0, .slice (some ad271) l0_1.length c0_1] 28 (0, 0)) (zK BK270.out) hb); clear hb hbox hg; have hnb11 := NB272_270.out; have hnc11 := NB270_272.out; have hcz12_0 := zy BK272 0; have hcz12_1 := zy BK272 1; have hfz12_0 := blk_frozen BK272.out 0; have hfz12_1 := blk_frozen BK272.out 1))
           go_ret
           exact ⟨by first | rfl | (simp [errW_none, errW_some] <;> rfl) | (simp [*, errW_none, errW_some] <;> rfl), zB⟩
         · rw [if_neg c8] at H
           have c8b0 : (((rd_T70 l0_1 x7_1).f1) == a2) = false := beq_eq_false_iff_ne.mpr c8
           have c8b1 : (((rd_T70 l0_1 x7_1).f1) != a2) = true := bne_iff_ne.mpr c8
           by_cases c13 : ((rd_T70 l0_1 x7_1).f0) = a2
           · rw [if_pos c13] at H
             have c13b0 : (((rd_T70 l0_1 x7_1).f0) == a2) = true := beq_iff_eq.mpr c13
             have c13b1 : (((rd_T70 l0_1 x7_1).f0) != a2) = false := bne_eq_false_iff_eq.mpr c13
             clear c13
             by_cases c14 : ((rd_T70 l0_1 x7_1).f1) = a1
             · rw [if_pos c14] at H
               have c14b0 : (((rd_T70 l0_1 x7_1).f1) == a1) = true := beq_iff_eq.mpr c14
               have c14b1 : (((rd_T70 l0_1 x7_1).f1) != a1) = false := bne_eq_false_iff_eq.mpr c14
               clear c14
               obtain rfl := Option.some.inj H
               have hcz15_0 := zy BK270 0
               have hcz15_1 := zy BK270 1
               have hfz15_0 := blk_frozen BK270.out 0
               have hfz15_1 := blk_frozen BK270.out 1
               have p271 : 0 ≤ (x7_1 : Int) := of_decide_eq_true zA
               have q271 : x7_1 < (l0_1.length : Int) := of_decide_eq_true zA
               obtain ⟨ad271, e271, hx271_0, hx271_1⟩ := at_T70 HR0_1.out x7_1 p271 q271
               cases e271
               (try replace hx271_0 := (HB.out.cell (World.block_lt_of_cell? w _ hx271_0)).trans hx271_0)
               (try replace hx271_1 := (HB.out.cell (World.block_lt_of_cell? w _ hx271_1)).trans hx271_1)
               replace p271 := eq_true p271
               replace q271 := eq_true q271
               go_wp2_with (first | ((with_reducible refine gate_dst (N := 8) rfl ?_); refine ze 8 #[.int .i64 0, .int .i64 0] 70 ?_; intro gb272 hg w16 hbox hb; have BK272 := zM (hbox); have GW272 := zM ((by rw [hg]; exact (below_size zB) : w.heap.size ≤ gb272)); have GE272 := zM ((by rw [hg]; exact (below_size zB) : w.heap.size ≤ gb272)); replace HB := zM (below_step zB hb); have NB270_272 := zM ((by rw [hg]; exact Nat.ne_of_lt (blk_lt (g := gb270) (o := .cells #[.int .i64 a0_0, .slice (some ad271) l0_1.length c0_1] 28 (0, 0)) (zK BK270.out)) : gb270 ≠ gb272)); have NB272_270 := zM ((by rw [hg]; exact Nat.ne_of_gt (blk_lt (g := gb270) (o := .cells #[.int .i64 a0_0, .slice (some ad271) l0_1.length c0_1] 28 (0, 0)) (zK BK270.out)) : gb272 ≠ gb270)); replace BK270 := zM (blk_below (g := gb270) (o := .cells #[.int .i64 a0_0, .slice (some ad271) l0_1.length c0_1] 28 (0, 0)) (zK BK270.out) hb); clear hb hbox hg; have hnb17 := NB272_270.out; have hnc17 := NB270_272.out; have hcz18_0 := zy BK272 0; have hcz18_1 := zy BK272 1; have hfz18_0 := blk_frozen BK272.out 0; have hfz18_1 := blk_frozen BK272.out 1))
               go_ret
               exact ⟨by first | rfl | (simp [errW_none, errW_some] <;> rfl) | (simp [*, errW_none, errW_some] <;> rfl), zB⟩
             · rw [if_neg c14] at H
               have c14b0 : (((rd_T70 l0_1 x7_1).f1) == a1) = false := beq_eq_false_iff_ne.mpr c14
               have c14b1 : (((rd_T70 l0_1 x7_1).f1) != a1) = true := bne_iff_ne.mpr c14
               have H' := Aside0.mk H
               clear H
               have hcz19_0 := zy BK270 0
               have hcz19_1 := zy BK270 1
               have hfz19_0 := blk_frozen BK270.out 0
               have hfz19_1 := blk_frozen BK270.out 1
               have p271 : 0 ≤ (x7_1 : Int) := of_decide_eq_true zA
               have q271 : x7_1 < (l0_1.length : Int) := of_decide_eq_true zA
               obtain ⟨ad271, e271, hx271_0, hx271_1⟩ := at_T70 HR0_1.out x7_1 p271 q271
               cases e271
               (try replace hx271_0 := (HB.out.cell (World.block_lt_of_cell? w _ hx271_0)).trans hx271_0)
               (try replace hx271_1 := (HB.out.cell (World.block_lt_of_cell? w _ hx271_1)).trans hx271_1)
               replace p271 := eq_true p271
               replace q271 := eq_true q271
               go_wp2_with (first | ((with_reducible refine gate_dst (N := 8) rfl ?_); refine ze 8 #[.int .i64 0, .int .i64 0] 70 ?_; intro gb272 hg w20 hbox hb; have BK272 := zM (hbox); have GW272 := zM ((by rw [hg]; exact (below_size zB) : w.heap.size ≤ gb272)); have GE272 := zM ((by rw [hg]; exact (below_size zB) : w.heap.size ≤ gb272)); replace HB := zM (below_step zB hb); have NB270_272 := zM ((by rw [hg]; exact Nat.ne_of_lt (blk_lt (g := gb270) (o := .cells #[.int .i64 a0_0, .slice (some ad271) l0_1.length c0_1] 28 (0, 0)) (zK BK270.out)) : gb270 ≠ gb272)); have NB272_270 := zM ((by rw [hg]; exact Nat.ne_of_gt (blk_lt (g := gb270) (o := .cells #[.int .i64 a0_0, .slice (some ad271) l0_1.length c0_1] 28 (0, 0)) (zK BK270.out)) : gb272 ≠ gb270)); replace BK270 := zM (blk_below (g := gb270) (o := .cells #[.int .i64 a0_0, .slice (some ad271) l0_1.length c0_1] 28 (0, 0)) (zK BK270.out) hb); clear hb hbox hg; have hnb21 := NB272_270.out; have hnc21 := NB270_272.out; have hcz22_0 := zy BK272 0; have hcz22_1 := zy BK272 1; have hfz22_0 := blk_frozen BK272.out 0; have hfz22_1 := blk_frozen BK272.out 1))
               go_roundg k1
               case measure => have := HK1.out; omega
               case rel => exact ⟨(wrap64 (x7_1 + 1)), (by first | rfl | (simp; done) | (simp [*]; done)), H', ⟨by have := HK1.out; omega⟩, ⟨by (with_reducible repeat (first | refine blk_drewN ?_ _ | refine blk_drew ?_ | refine blk_alloc ?_ _)); refine blk_far ?_ NB270_272.out _; (with_reducible repeat (first | refine blk_drewN ?_ _ | refine blk_drew ?_ | refine blk_alloc ?_ _)); refine blk_far ?_ NB270_272.out _; (with_reducible repeat (first | refine blk_drewN ?_ _ | refine blk_drew ?_ | refine blk_alloc ?_ _)); exact BK270.out⟩, ⟨zB⟩⟩
           · rw [if_neg c13] at H
             have c13b0 : (((rd_T70 l0_1 x7_1).f0) == a2) = false := beq_eq_false_iff_ne.mpr c13
             have c13b1 : (((rd_T70 l0_1 x7_1).f0) != a2) = true := bne_iff_ne.mpr c13
             have H' := Aside0.mk H
             clear H
             have hcz23_0 := zy BK270 0
             have hcz23_1 := zy BK270 1
             have hfz23_0 := blk_frozen BK270.out 0
             have hfz23_1 := blk_frozen BK270.out 1
             have p271 : 0 ≤ (x7_1 : Int) := of_decide_eq_true zA
             have q271 : x7_1 < (l0_1.length : Int) := of_decide_eq_true zA
             obtain ⟨ad271, e271, hx271_0, hx271_1⟩ := at_T70 HR0_1.out x7_1 p271 q271
             cases e271
             (try replace hx271_0 := (HB.out.cell (World.block_lt_of_cell? w _ hx271_0)).trans hx271_0)
             (try replace hx271_1 := (HB.out.cell (World.block_lt_of_cell? w _ hx271_1)).trans hx271_1)
             replace p271 := eq_true p271
             replace q271 := eq_true q271
             go_wp2_with (first | ((with_reducible refine gate_dst (N := 8) rfl ?_); refine ze 8 #[.int .i64 0, .int .i64 0] 70 ?_; intro gb272 hg w24 hbox hb; have BK272 := zM (hbox); have GW272 := zM ((by rw [hg]; exact (below_size zB) : w.heap.size ≤ gb272)); have GE272 := zM ((by rw [hg]; exact (below_size zB) : w.heap.size ≤ gb272)); replace HB := zM (below_step zB hb); have NB270_272 := zM ((by rw [hg]; exact Nat.ne_of_lt (blk_lt (g := gb270) (o := .cells #[.int .i64 a0_0, .slice (some ad271) l0_1.length c0_1] 28 (0, 0)) (zK BK270.out)) : gb270 ≠ gb272)); have NB272_270 := zM ((by rw [hg]; exact Nat.ne_of_gt (blk_lt (g := gb270) (o := .cells #[.int .i64 a0_0, .slice (some ad271) l0_1.length c0_1] 28 (0, 0)) (zK BK270.out)) : gb272 ≠ gb270)); replace BK270 := zM (blk_below (g := gb270) (o := .cells #[.int .i64 a0_0, .slice (some ad271) l0_1.length c0_1] 28 (0, 0)) (zK BK270.out) hb); clear hb hbox hg; have hnb25 := NB272_270.out; have hnc25 := NB270_272.out; have hcz26_0 := zy BK272 0; have hcz26_1 := zy BK272 1; have hfz26_0 := blk_frozen BK272.out 0; have hfz26_1 := blk_frozen BK272.out 1))
             go_roundg k1
             case measure => have := HK1.out; omega
             case rel => exact ⟨(wrap64 (x7_1 + 1)), (by first | rfl | (simp; done) | (simp [*]; done)), H', ⟨by have := HK1.out; omega⟩, ⟨by (with_reducible repeat (first | refine blk_drewN ?_ _ | refine blk_drew ?_ | refine blk_alloc ?_ _)); refine blk_far ?_ NB270_272.out _; (with_reducible repeat (first | refine blk_drewN ?_ _ | refine blk_drew ?_ | refine blk_alloc ?_ _)); refine blk_far ?_ NB270_272.out _; (with_reducible repeat (first | refine blk_drewN ?_ _ | refine blk_drew ?_ | refine blk_alloc ?_ _)); exact BK270.out⟩, ⟨zB⟩⟩
       · rw [if_neg c7] at H
         have c7b0 : (((rd_T70 l0_1 x7_1).f0) == a1) = false := beq_eq_false_iff_ne.mpr c7
         have c7b1 : (((rd_T70 l0_1 x7_1).f0) != a1) = true := bne_iff_ne.mpr c7
         by_cases c27 : ((rd_T70 l0_1 x7_1).f0) = a2
         · rw [if_pos c27] at H
           have c27b0 : (((rd_T70 l0_1 x7_1).f0) == a2) = true := beq_iff_eq.mpr c27
           have c27b1 : (((rd_T70 l0_1 x7_1).f0) != a2) = false := bne_eq_false_iff_eq.mpr c27
           clear c27
           by_cases c28 : ((rd_T70 l0_1 x7_1).f1) = a1
           · rw [if_pos c28] at H
             have c28b0 : (((rd_T70 l0_1 x7_1).f1) == a1) = true := beq_iff_eq.mpr c28
             have c28b1 : (((rd_T70 l0_1 x7_1).f1) != a1) = false := bne_eq_false_iff_eq.mpr c28
             clear c28
             obtain rfl := Option.some.inj H
             have hcz29_0 := zy BK270 0
             have hcz29_1 := zy BK270 1
             have hfz29_0 := blk_frozen BK270.out 0
             have hfz29_1 := blk_frozen BK270.out 1
             have p271 : 0 ≤ (x7_1 : Int) := of_decide_eq_true zA
             have q271 : x7_1 < (l0_1.length : Int) := of_decide_eq_true zA
             obtain ⟨ad271, e271, hx271_0, hx271_1⟩ := at_T70 HR0_1.out x7_1 p271 q271
             cases e271
             (try replace hx271_0 := (HB.out.cell (World.block_lt_of_cell? w _ hx271_0)).trans hx271_0)
             (try replace hx271_1 := (HB.out.cell (World.block_lt_of_cell? w _ hx271_1)).trans hx271_1)
             replace p271 := eq_true p271
             replace q271 := eq_true q271
             go_wp2_with (first | ((with_reducible refine gate_dst (N := 8) rfl ?_); refine ze 8 #[.int .i64 0, .int .i64 0] 70 ?_; intro gb272 hg w30 hbox hb; have BK272 := zM (hbox); have GW272 := zM ((by rw [hg]; exact (below_size zB) : w.heap.size ≤ gb272)); have GE272 := zM ((by rw [hg]; exact (below_size zB) : w.heap.size ≤ gb272)); replace HB := zM (below_step zB hb); have NB270_272 := zM ((by rw [hg]; exact Nat.ne_of_lt (blk_lt (g := gb270) (o := .cells #[.int .i64 a0_0, .slice (some ad271) l0_1.length c0_1] 28 (0, 0)) (zK BK270.out)) : gb270 ≠ gb272)); have NB272_270 := zM ((by rw [hg]; exact Nat.ne_of_gt (blk_lt (g := gb270) (o := .cells #[.int .i64 a0_0, .slice (some ad271) l0_1.length c0_1] 28 (0, 0)) (zK BK270.out)) : gb272 ≠ gb270)); replace BK270 := zM (blk_below (g := gb270) (o := .cells #[.int .i64 a0_0, .slice (some ad271) l0_1.length c0_1] 28 (0, 0)) (zK BK270.out) hb); clear hb hbox hg; have hnb31 := NB272_270.out; have hnc31 := NB270_272.out; have hcz32_0 := zy BK272 0; have hcz32_1 := zy BK272 1; have hfz32_0 := blk_frozen BK272.out 0; have hfz32_1 := blk_frozen BK272.out 1))
             go_ret
             exact ⟨by first | rfl | (simp [errW_none, errW_some] <;> rfl) | (simp [*, errW_none, errW_some] <;> rfl), zB⟩
           · rw [if_neg c28] at H
             have c28b0 : (((rd_T70 l0_1 x7_1).f1) == a1) = false := beq_eq_false_iff_ne.mpr c28
             have c28b1 : (((rd_T70 l0_1 x7_1).f1) != a1) = true := bne_iff_ne.mpr c28
             have H' := Aside0.mk H
             clear H
             have hcz33_0 := zy BK270 0
             have hcz33_1 := zy BK270 1
             have hfz33_0 := blk_frozen BK270.out 0
             have hfz33_1 := blk_frozen BK270.out 1
             have p271 : 0 ≤ (x7_1 : Int) := of_decide_eq_true zA
             have q271 : x7_1 < (l0_1.length : Int) := of_decide_eq_true zA
             obtain ⟨ad271, e271, hx271_0, hx271_1⟩ := at_T70 HR0_1.out x7_1 p271 q271
             cases e271
             (try replace hx271_0 := (HB.out.cell (World.block_lt_of_cell? w _ hx271_0)).trans hx271_0)
             (try replace hx271_1 := (HB.out.cell (World.block_lt_of_cell? w _ hx271_1)).trans hx271_1)
             replace p271 := eq_true p271
             replace q271 := eq_true q271
             go_wp2_with (first | ((with_reducible refine gate_dst (N := 8) rfl ?_); refine ze 8 #[.int .i64 0, .int .i64 0] 70 ?_; intro gb272 hg w34 hbox hb; have BK272 := zM (hbox); have GW272 := zM ((by rw [hg]; exact (below_size zB) : w.heap.size ≤ gb272)); have GE272 := zM ((by rw [hg]; exact (below_size zB) : w.heap.size ≤ gb272)); replace HB := zM (below_step zB hb); have NB270_272 := zM ((by rw [hg]; exact Nat.ne_of_lt (blk_lt (g := gb270) (o := .cells #[.int .i64 a0_0, .slice (some ad271) l0_1.length c0_1] 28 (0, 0)) (zK BK270.out)) : gb270 ≠ gb272)); have NB272_270 := zM ((by rw [hg]; exact Nat.ne_of_gt (blk_lt (g := gb270) (o := .cells #[.int .i64 a0_0, .slice (some ad271) l0_1.length c0_1] 28 (0, 0)) (zK BK270.out)) : gb272 ≠ gb270)); replace BK270 := zM (blk_below (g := gb270) (o := .cells #[.int .i64 a0_0, .slice (some ad271) l0_1.length c0_1] 28 (0, 0)) (zK BK270.out) hb); clear hb hbox hg; have hnb35 := NB272_270.out; have hnc35 := NB270_272.out; have hcz36_0 := zy BK272 0; have hcz36_1 := zy BK272 1; have hfz36_0 := blk_frozen BK272.out 0; have hfz36_1 := blk_frozen BK272.out 1))
             go_roundg k1
             case measure => have := HK1.out; omega
             case rel => exact ⟨(wrap64 (x7_1 + 1)), (by first | rfl | (simp; done) | (simp [*]; done)), H', ⟨by have := HK1.out; omega⟩, ⟨by (with_reducible repeat (first | refine blk_drewN ?_ _ | refine blk_drew ?_ | refine blk_alloc ?_ _)); refine blk_far ?_ NB270_272.out _; (with_reducible repeat (first | refine blk_drewN ?_ _ | refine blk_drew ?_ | refine blk_alloc ?_ _)); refine blk_far ?_ NB270_272.out _; (with_reducible repeat (first | refine blk_drewN ?_ _ | refine blk_drew ?_ | refine blk_alloc ?_ _)); exact BK270.out⟩, ⟨zB⟩⟩
         · rw [if_neg c27] at H
           have c27b0 : (((rd_T70 l0_1 x7_1).f0) == a2) = false := beq_eq_false_iff_ne.mpr c27
           have c27b1 : (((rd_T70 l0_1 x7_1).f0) != a2) = true := bne_iff_ne.mpr c27
           have H' := Aside0.mk H
           clear H
           have hcz37_0 := zy BK270 0
           have hcz37_1 := zy BK270 1
           have hfz37_0 := blk_frozen BK270.out 0
           have hfz37_1 := blk_frozen BK270.out 1
           have p271 : 0 ≤ (x7_1 : Int) := of_decide_eq_true zA
           have q271 : x7_1 < (l0_1.length : Int) := of_decide_eq_true zA
           obtain ⟨ad271, e271, hx271_0, hx271_1⟩ := at_T70 HR0_1.out x7_1 p271 q271
           cases e271
           (try replace hx271_0 := (HB.out.cell (World.block_lt_of_cell? w _ hx271_0)).trans hx271_0)
           (try replace hx271_1 := (HB.out.cell (World.block_lt_of_cell? w _ hx271_1)).trans hx271_1)
           replace p271 := eq_true p271
           replace q271 := eq_true q271
           go_wp2_with (first | ((with_reducible refine gate_dst (N := 8) rfl ?_); refine ze 8 #[.int .i64 0, .int .i64 0] 70 ?_; intro gb272 hg w38 hbox hb; have BK272 := zM (hbox); have GW272 := zM ((by rw [hg]; exact (below_size zB) : w.heap.size ≤ gb272)); have GE272 := zM ((by rw [hg]; exact (below_size zB) : w.heap.size ≤ gb272)); replace HB := zM (below_step zB hb); have NB270_272 := zM ((by rw [hg]; exact Nat.ne_of_lt (blk_lt (g := gb270) (o := .cells #[.int .i64 a0_0, .slice (some ad271) l0_1.length c0_1] 28 (0, 0)) (zK BK270.out)) : gb270 ≠ gb272)); have NB272_270 := zM ((by rw [hg]; exact Nat.ne_of_gt (blk_lt (g := gb270) (o := .cells #[.int .i64 a0_0, .slice (some ad271) l0_1.length c0_1] 28 (0, 0)) (zK BK270.out)) : gb272 ≠ gb270)); replace BK270 := zM (blk_below (g := gb270) (o := .cells #[.int .i64 a0_0, .slice (some ad271) l0_1.length c0_1] 28 (0, 0)) (zK BK270.out) hb); clear hb hbox hg; have hnb39 := NB272_270.out; have hnc39 := NB270_272.out; have hcz40_0 := zy BK272 0; have hcz40_1 := zy BK272 1; have hfz40_0 := blk_frozen BK272.out 0; have hfz40_1 := blk_frozen BK272.out 1))
           go_roundg k1
           case measure => have := HK1.out; omega
           case rel => exact ⟨(wrap64 (x7_1 + 1)), (by first | rfl | (simp; done) | (simp [*]; done)), H', ⟨by have := HK1.out; omega⟩, ⟨by (with_reducible repeat (first | refine blk_drewN ?_ _ | refine blk_drew ?_ | refine blk_alloc ?_ _)); refine blk_far ?_ NB270_272.out _; (with_reducible repeat (first | refine blk_drewN ?_ _ | refine blk_drew ?_ | refine blk_alloc ?_ _)); refine blk_far ?_ NB270_272.out _; (with_reducible repeat (first | refine blk_drewN ?_ _ | refine blk_drew ?_ | refine blk_alloc ?_ _)); exact BK270.out⟩, ⟨zB⟩⟩
     · rw [if_neg c6] at H
       exact absurd H (by simp)
   · rw [if_neg c5] at H
     have c5b0 : decide (x7_1 < (l0_1.length : Int)) = false := decide_eq_false c5
     clear c5
     obtain rfl := Option.some.inj H
     have hcz41_0 := zy BK270 0
     have hcz41_1 := zy BK270 1
     have hfz41_0 := blk_frozen BK270.out 0
     have hfz41_1 := blk_frozen BK270.out 1
     go_wp2
     go_ret
     exact ⟨by first | rfl | (simp [errW_none, errW_some] <;> rfl) | (simp [*, errW_none, errW_some] <;> rfl), zB⟩

/-! ### spec_l2Set: function 89 -/
def spec_l2Set.f (k : Nat) (a0_0 : Int) (l0_1 : List (S70)) (l1 : List Int) : Option (Bool) := (spec_l1Rising.f k l1 0 (wrap64 (a0_0 - 1))).bind fun t274 => (some t274)
set_option maxHeartbeats 8000000 in
set_option maxRecDepth 100000 in
theorem spec_l2Set.calls (k : Nat) (a0_0 : Int) (A0_1 : Option Addr) (c0_1 : Nat) (l0_1 : List (S70)) (A1 : Option Addr) (c1 : Nat) (l1 : List Int) (r : Bool) (w : World) (hr0_1 : Kd.C k70 w A0_1 l0_1.length l0_1) (hc0_1 : l0_1.length ≤ c0_1) (hr1 : Kd.C (Kd.int .i64) w A1 l1.length l1) (hc1 : l1.length ≤ c1) (h : spec_l2Set.f k a0_0 l0_1 l1 = some r) :
 Calls Try.prog 89 #[.agg #[.int .i64 a0_0, .slice A0_1 l0_1.length c0_1], .slice A1 l1.length c1] w fun e w' => e = .returned (.bool r) ∧ Below w.heap.size w w' := by
 have hu28 := Try.underlying28
 have HR0_1 := Aside0.mk hr0_1
 have HC0_1 := Aside0.mk hc0_1
 clear hr0_1 hc0_1
 have HR1 := Aside0.mk hr1
 have HC1 := Aside0.mk hc1
 clear hr1 hc1
 have HB := zM (Below.refl w.heap.size w)
 have H : ((spec_l1Rising.f k l1 0 (wrap64 (a0_0 - 1))).bind fun t274 => (some t274)) = some r := h
 clear h
 replace H := Option.bind_eq_some_iff.mp H
 obtain ⟨t274, A30, H⟩ := H
 have A3 := Aside0.mk A30
 clear A30
 obtain rfl := Option.some.inj H
 go_enter Try.func89, Try.ntmps89
 go_wp2_with (first | ((with_reducible refine gate_dst (N := 2) rfl ?_); refine zb (w := w) 2 #[.int .i64 a0_0, .slice A0_1 l0_1.length c0_1] 28 zB ?_; clear HB; intro gb273 w4 HB BK273 GW273; have GE273 := GW273; have hcz5_0 := zy BK273 0; have hcz5_1 := zy BK273 1; have hfz5_0 := blk_frozen BK273.out 0; have hfz5_1 := blk_frozen BK273.out 1) | ((with_reducible refine gate_callee (f := 112) rfl ?_); refine zc 9 Try.func112 #[.slice A1 l1.length c1, .int .i64 0, .int .i64 (wrap64 (a0_0 - 1))] ?_; (with_reducible refine (spec_l1Rising.calls k _ _ l1 0 (wrap64 (a0_0 - 1)) t274 _ ?side1 ?side2 A3.out).mono ?_); (case side1 => exact zC (Kd.C_below HR1.out HB.out)); (case side2 => exact HC1.out); rintro e w' ⟨rfl, ⟨nd, rfl⟩⟩; refine ⟨_, rfl, ?_⟩))
 go_ret
 exact ⟨by first | rfl | (simp [errW_none, errW_some] <;> rfl) | (simp [*, errW_none, errW_some] <;> rfl), zB⟩

end Go.Proofs.Ytadjbmcfgjmhkaa.P
