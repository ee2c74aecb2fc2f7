-- Written by a program of this session (the kit's print, turned: wip/print/patch.py) out of the translation. Not trusted: Lean checks it.
import Derived.Test.YtfaeopmofgnbdaaWideNumberG5
import Derived.Test.YtfaeopmofgnbdaaWideNumberG10
import Derived.Test.YtfaeopmofgnbdaaWideNumberG12
import Derived.Test.YtfaeopmofgnbdaaWideNumberG16
import Derived.Test.YtfaeopmofgnbdaaWideNumberG15
import Derived.Test.YtfaeopmofgnbdaaWideNumberG6
namespace Go.Proofs.Ytfaeopmofgnbdaa.P
open Go.RowKit Go.Proofs.YtfaeopmofgnbdaaW.PrintWords Go.Proofs.YtfaeopmofgnbdaaW.PrintLast Go.Proofs.YtfaeopmofgnbdaaW.PrintMore
attribute [local go_sem] max2_int min2_int max_two min_two max_three min_three max_four min_four   -- for this text's walks alone
set_option linter.unusedVariables false
set_option linter.unusedSimpArgs false

/-! ### impl_Graph_all: function 58 -/
def impl_Graph_all.f (a0_0 : Int) (l0_1 : List (S48)) : Option (Int) := if 0 ≤ a0_0 then (some (IntKind.u64.wrap ((shl .u64 1 a0_0) - 1))) else (none)
set_option maxHeartbeats 8000000 in
set_option maxRecDepth 100000 in
theorem impl_Graph_all.calls (a0_0 : Int) (A0_1 : Option Addr) (c0_1 : Nat) (l0_1 : List (S48)) (r : Int) (w : World) (hr0_1 : Kd.C k48 w A0_1 l0_1.length l0_1) (hc0_1 : l0_1.length ≤ c0_1) (h : impl_Graph_all.f a0_0 l0_1 = some r) :
 Calls Try.prog 58 #[.agg #[.int .i64 a0_0, .slice A0_1 l0_1.length c0_1]] w fun e w' => e = .returned (.int .u64 r) ∧ Below w.heap.size w w' := by
 have hu28 := Try.underlying28
 have HR0_1 := Aside0.mk hr0_1
 have HC0_1 := Aside0.mk hc0_1
 clear hr0_1 hc0_1
 have HB := zM (Below.refl w.heap.size w)
 have H : (if 0 ≤ a0_0 then (some (IntKind.u64.wrap ((shl .u64 1 a0_0) - 1))) else (none)) = some r := h
 clear h
 by_cases c2 : 0 ≤ a0_0
 · rw [if_pos c2] at H
   have c2b0 := eq_true c2
   have c2b1 : decide (0 ≤ a0_0) = true := decide_eq_true c2
   clear c2
   obtain ⟨ji3, hji3⟩ : ∃ j_ : Int, (shl .u64 1 a0_0) = j_ := ⟨_, rfl⟩
   replace H : (some (IntKind.u64.wrap ((ji3) - 1))) = some r := by first | (rw [hji3] at H; exact H) | (simp only [hji3] at H ⊢; exact H)
   have hji3_ : (IntKind.u64.wrap (1 * 2 ^ min a0_0.toNat 64)) = ji3 := hji3
   have hji3z : a0_0 ≤ 64 → (IntKind.u64.wrap (1 * 2 ^ a0_0.toNat)) = ji3 := shl_small hji3
   have hji3u : (IntKind.u64.wrap (2 ^ min a0_0.toNat 64)) = ji3 := by have h_ := hji3_; rw [Int.one_mul] at h_; exact h_
   have hji3v : a0_0 ≤ 64 → (IntKind.u64.wrap (2 ^ a0_0.toNat)) = ji3 := fun hle_ => by have h_ := hji3z hle_; rw [Int.one_mul] at h_; exact h_
   obtain rfl := Option.some.inj H
   go_enter Try.func58, Try.ntmps58
   go_wp2_with (first | ((with_reducible refine gate_dst (N := 1) rfl ?_); refine zb (w := w) 1 #[.int .i64 a0_0, .slice A0_1 l0_1.length c0_1] 28 zB ?_; clear HB; intro gb283 w4 HB BK283 GW283; have GE283 := GW283; have hcz5_0 := zy BK283 0; have hcz5_1 := zy BK283 1; have hfz5_0 := blk_frozen BK283.out 0; have hfz5_1 := blk_frozen BK283.out 1))
   go_ret
   exact ⟨by first | rfl | (simp [errW_none, errW_some] <;> rfl) | (simp only [← hji3]; first | rfl | (simp [errW_none, errW_some] <;> rfl)) | (simp [*, errW_none, errW_some] <;> rfl), zB⟩
 · rw [if_neg c2] at H
   exact absurd H (by simp)

/-! ### impl_bag_list: function 59 -/
def impl_bag_list.l0 : Nat → Int → List Int → Int → Option (List Int)
 | 0, _, _, _ => none
 | k + 1, x0, x3, x6 => if x6 < 8 then (if 0 ≤ x6 then (if (Go.bits .and .u64 (shr .u64 x0 x6) 1) = 1 then (if x3.length < 17592186044416 then (impl_bag_list.l0 k x0 (x3 ++ [x6]) (wrap64 (x6 + 1))) else (none)) else (impl_bag_list.l0 k x0 x3 (wrap64 (x6 + 1)))) else (none)) else (some x3)
def impl_bag_list.f (k : Nat) (a0 : Int) : Option (List Int) := impl_bag_list.l0 k a0 (([] : List Int)) 0
set_option maxHeartbeats 8000000 in
set_option maxRecDepth 100000 in
theorem impl_bag_list.calls (k : Nat) (a0 : Int) (r : List Int) (w : World) (h : impl_bag_list.f k a0 = some r) :
 Calls Try.prog 59 #[.int .u64 a0] w fun e w' => ∃ v0_ : Value, e = .returned (v0_) ∧ Kd.R (Kd.int .i64) 3 w' w.heap.size (fun _ => True) v0_ r ∧ Below w.heap.size w w' := by
 have HB := zM (Below.refl w.heap.size w)
 have H : (impl_bag_list.l0 k a0 (([] : List Int)) 0) = some r := h
 clear h
 obtain ⟨y284, hy284⟩ : ∃ y_ : List Int, y_ = (([] : List Int)) := ⟨_, rfl⟩
 replace H : (impl_bag_list.l0 k a0 y284 0) = some r := by first | (rw [hy284]; with_reducible exact H) | (have H2_ := (Option.bind_some _ _).symm.trans H; rw [hy284]; with_reducible exact H2_) | (have H2_ := (Option.bind_some _ _).symm.trans H; with_reducible exact H2_) | with_reducible exact H | (rw [hy284]; exact H) | exact H
 have Ny284 := Aside0.mk hy284
 clear hy284
 have H' := Aside0.mk H
 clear H
 go_enter Try.func59, Try.ntmps59
 go_wp2_with (first | ((with_reducible refine gate_dst (N := 5) rfl ?_); refine Kd.R_lit (Kd.int .i64) _ 3 ?hg (N := 5) ?hd (xs := ([] : List Int)) (inner := []) (ok := fun _ => True) (okp := fun _ => True) ?hr ?hp (fun _ hk => hk) trivial (Below.refl _ _) (Nat.le_refl _) (by simp) ?_; (case hd => rfl); (case hg => rfl); (case hr => first | (go_simp; done) | (go_simp; rfl)); (case hp => exact (Reps.none _ _)); intro v285 w2 ho3 hb hg_ hnew_; clear hg_ hnew_; (first | rw [← Ny284.out] at ho3 | (simp only [Int.reduceToNat] at ho3; rw [← Ny284.out] at ho3)); have HO286 := zM (Kd.R_lower ho3 (below_size zB)); replace HB := zM (below_step zB hb); clear hb ho3))
 go_loopg [3, 6] k (fun kq v3 v6 w' => ∃ (x3_1 : List Int) (x6_1 : Int), v6 = .int .i64 x6_1 ∧ Aside0 (impl_bag_list.l0 kq a0 x3_1 x6_1 = some r) ∧ Aside0 (kq ≤ k) ∧ Aside0 (Kd.R (Kd.int .i64) 3 w' w.heap.size (fun _ => True) v3 x3_1) ∧ Aside0 (Below w.heap.size w w'))
 case atStart => exact ⟨(y284), (0), (by first | rfl | (simp; done) | (simp [*]; done)), H', ⟨Nat.le_refl _⟩, ⟨zR HO286.out⟩, ⟨zB⟩⟩
 case round =>
  clear H'
  try clear p2
  obtain ⟨x3_1, x6_1, rfl, HA, HK1, HO_3, HB⟩ := hrel
  cases gk with
  | zero => exact absurd HA.out (by simp [impl_bag_list.l0])
  | succ k1 =>
   have H := HA.out
   clear HA
   simp only [impl_bag_list.l0] at H
   by_cases c4 : x6_1 < 8
   · rw [if_pos c4] at H
     have c4b0 := decide_eq_true c4
     clear c4
     by_cases c5 : 0 ≤ x6_1
     · rw [if_pos c5] at H
       have c5b0 := eq_true c5
       have c5b1 : decide (0 ≤ x6_1) = true := decide_eq_true c5
       clear c5
       obtain ⟨ji6, hji6⟩ : ∃ j_ : Int, (shr .u64 a0 x6_1) = j_ := ⟨_, rfl⟩
       replace H : (if (Go.bits .and .u64 (ji6) 1) = 1 then (if x3_1.length < 17592186044416 then (impl_bag_list.l0 k1 a0 (x3_1 ++ [x6_1]) (wrap64 (x6_1 + 1))) else (none)) else (impl_bag_list.l0 k1 a0 x3_1 (wrap64 (x6_1 + 1)))) = some r := by first | (rw [hji6] at H; exact H) | (simp only [hji6] at H ⊢; exact H)
       have hji6_ : (a0 / 2 ^ min x6_1.toNat 64) = ji6 := hji6
       have hji6z : x6_1 ≤ 64 → (a0 / 2 ^ x6_1.toNat) = ji6 := shr_small hji6
       by_cases c7 : (Go.bits .and .u64 (ji6) 1) = 1
       · rw [if_pos c7] at H
         have c7b0 : ((Go.bits .and .u64 (ji6) 1) == 1) = true := beq_iff_eq.mpr c7
         have c7b1 : ((Go.bits .and .u64 (ji6) 1) != 1) = false := bne_eq_false_iff_eq.mpr c7
         clear c7
         by_cases c8 : x3_1.length < 17592186044416
         · rw [if_pos c8] at H
           have LMc8 := Aside0.mk c8
           clear c8
           obtain ⟨y287, hy287⟩ : ∃ y_ : List Int, y_ = (x3_1 ++ [x6_1]) := ⟨_, rfl⟩
           replace H : (impl_bag_list.l0 k1 a0 y287 (wrap64 (x6_1 + 1))) = some r := by first | (rw [hy287]; with_reducible exact H) | (have H2_ := (Option.bind_some _ _).symm.trans H; rw [hy287]; with_reducible exact H2_) | (have H2_ := (Option.bind_some _ _).symm.trans H; with_reducible exact H2_) | with_reducible exact H | (rw [hy287]; exact H) | exact H
           have Ny287 := Aside0.mk hy287
           clear hy287
           have H' := Aside0.mk H
           clear H
           go_wp2_with (first | ((with_reducible refine gate_builtin (b := .append) (xs := #[.tmp 14, .tmp 16]) rfl ?_); at_builtin; refine Kd.R_append (Kd.int .i64) (w0 := w) w.heap.size rfl (.tmp 14) (.tmp 16) 37 3 (.int .i64 0) 8 rfl Try.underlying37 info3 rfl (by decide) (by omega) u3 x3_1 x6_1 [.int .i64 x6_1] (fun _ => True) (fun _ => False) rfl rfl ?aP (fun _ hk => hk.elim) ?aF ?aO ?aB ?aS ?aL ?_; (case aP => exact rfl); (case aB => exact zB); (case aF => exact (fun _ _ => trivial)); (case aO => exact (zR HO_3.out)); (case aS => exact (below_size zB)); (case aL => have := LMc8.out; omega); intro v288 w9 ho hb hg hat; rw [← Ny287.out] at ho; replace HB := zM (hb); have HO289 := zM (ho); clear HO_3; clear ho hb hg hat))
           go_roundg k1
           case measure => have := HK1.out; omega
           case rel => exact ⟨(y287), (wrap64 (x6_1 + 1)), (by first | rfl | (simp; done) | (simp [*]; done)), H', ⟨by have := HK1.out; omega⟩, ⟨zR HO289.out⟩, ⟨zB⟩⟩
         · rw [if_neg c8] at H
           exact absurd H (by simp)
       · rw [if_neg c7] at H
         have c7b0 : ((Go.bits .and .u64 (ji6) 1) == 1) = false := beq_eq_false_iff_ne.mpr c7
         have c7b1 : ((Go.bits .and .u64 (ji6) 1) != 1) = true := bne_iff_ne.mpr c7
         have H' := Aside0.mk H
         clear H
         go_wp2
         go_roundg k1
         case measure => have := HK1.out; omega
         case rel => exact ⟨(x3_1), (wrap64 (x6_1 + 1)), (by first | rfl | (simp; done) | (simp [*]; done)), H', ⟨by have := HK1.out; omega⟩, ⟨zR HO_3.out⟩, ⟨zB⟩⟩
     · rw [if_neg c5] at H
       exact absurd H (by simp)
   · rw [if_neg c4] at H
     have c4b0 : decide (x6_1 < 8) = false := decide_eq_false c4
     clear c4
     obtain rfl := Option.some.inj H
     go_wp2
     go_ret
     exact ⟨_, by first | rfl | (simp [errW_none, errW_some] <;> rfl) | (simp [*, errW_none, errW_some] <;> rfl), by (with_reducible repeat (first | apply Kd.R_alloc | apply Kd.R_drewN | apply Kd.R_drew)); exact HO_3.out, zB⟩

/-! ### impl_Graph_hasKind: function 45 -/
mutual
def impl_Graph_hasKind.l0 : Nat → List Int → List Int → Int → Int → Int → List (S48) → Option (Bool)
 | 0, _, _, _, _, _, _ => none
 | k + 1, x7, x26, x27, x28, x291000, x291001 => if x28 < x27 then (if 0 ≤ x28 then (if x28 < (x26.length : Int) then (if x28 ≤ (x7.length : Int) then ((some (x7.take (x28 : Int).toNat : List Int)).bind fun y297 => (impl_Graph_hasKind.l1 k x7 (rd x26 x28) x26 x27 x28 y297 (y297.length : Int) 0 x291000 x291001)) else (none)) else (none)) else (none)) else (some true)
def impl_Graph_hasKind.l1 : Nat → List Int → Int → List Int → Int → Int → List Int → Int → Int → Int → List (S48) → Option (Bool)
 | 0, _, _, _, _, _, _, _, _, _, _ => none
 | k + 1, x7, x9, x26, x27, x28, x35, x36, x37, x291000, x291001 => if x37 < x36 then (if 0 ≤ x37 then (if x37 < (x35.length : Int) then ((impl_Graph_has.f k x291000 x291001 x9 (rd x35 x37)).bind fun t302 => (if t302 = true then (impl_Graph_hasKind.l1 k x7 x9 x26 x27 x28 x35 x36 (wrap64 (x37 + 1)) x291000 x291001) else (some false))) else (none)) else (none)) else (impl_Graph_hasKind.l0 k x7 x26 x27 (wrap64 (x28 + 1)) x291000 x291001)
def impl_Graph_hasKind.l2 : Nat → Int → Int → Int → Int → List (S48) → Option (Bool)
 | 0, _, _, _, _, _ => none
 | k + 1, x2, x49, x50, x291000, x291001 => if x50 < x49 then ((impl_bag_has.f x2 x50).bind fun t303 => (if t303 = true then (impl_Graph_hasKind.l2 k x2 x49 (wrap64 (x50 + 1)) x291000 x291001) else ((impl_Graph_neighbors.f k x291000 x291001 x50).bind fun t304 => ((impl_bagOf.f k t304).bind fun t307 => (if (Go.bits .and .u64 t307 x2) = 0 then (some false) else (impl_Graph_hasKind.l2 k x2 x49 (wrap64 (x50 + 1)) x291000 x291001)))))) else (some true)
end
def impl_Graph_hasKind.f (k : Nat) (a0_0 : Int) (l0_1 : List (S48)) (a1 : Int) (a2 : Int) : Option (Bool) := if a1 = 1 then ((impl_Graph_all.f a0_0 l0_1).bind fun t291 => ((impl_Graph_isFree.f a0_0 l0_1 (Go.bits .andNot .u64 t291 a2)).bind fun t292 => (some t292))) else (if a1 = 2 then ((impl_bag_list.f k a2).bind fun t293 => (impl_Graph_hasKind.l0 k t293 t293 (t293.length : Int) 0 a0_0 l0_1)) else (impl_Graph_hasKind.l2 k a2 a0_0 0 a0_0 l0_1))
set_option maxHeartbeats 8000000 in
set_option maxRecDepth 100000 in
theorem impl_Graph_hasKind.calls (k : Nat) (a0_0 : Int) (A0_1 : Option Addr) (c0_1 : Nat) (l0_1 : List (S48)) (a1 : Int) (a2 : Int) (r : Bool) (w : World) (hr0_1 : Kd.C k48 w A0_1 l0_1.length l0_1) (hc0_1 : l0_1.length ≤ c0_1) (h : impl_Graph_hasKind.f k a0_0 l0_1 a1 a2 = some r) :
 Calls Try.prog 45 #[.agg #[.int .i64 a0_0, .slice A0_1 l0_1.length c0_1], .int .i64 a1, .int .u64 a2] w fun e w' => e = .returned (.bool r) ∧ Below w.heap.size w w' := by
 have hu28 := Try.underlying28
 have HR0_1 := Aside0.mk hr0_1
 have HC0_1 := Aside0.mk hc0_1
 clear hr0_1 hc0_1
 have HB := zM (Below.refl w.heap.size w)
 have H : (if a1 = 1 then ((impl_Graph_all.f a0_0 l0_1).bind fun t291 => ((impl_Graph_isFree.f a0_0 l0_1 (Go.bits .andNot .u64 t291 a2)).bind fun t292 => (some t292))) else (if a1 = 2 then ((impl_bag_list.f k a2).bind fun t293 => (impl_Graph_hasKind.l0 k t293 t293 (t293.length : Int) 0 a0_0 l0_1)) else (impl_Graph_hasKind.l2 k a2 a0_0 0 a0_0 l0_1))) = some r := h
 clear h
 by_cases c4 : a1 = 1
 · rw [if_pos c4] at H
   have c4b0 : (a1 == 1) = true := beq_iff_eq.mpr c4
   have c4b1 : (a1 != 1) = false := bne_eq_false_iff_eq.mpr c4
   clear c4
   replace H := Option.bind_eq_some_iff.mp H
   obtain ⟨t291, A50, H⟩ := H
   have A5 := Aside0.mk A50
   clear A50
   replace H := Option.bind_eq_some_iff.mp H
   obtain ⟨t292, A60, H⟩ := H
   have A6 := Aside0.mk A60
   clear A60
   obtain rfl := Option.some.inj H
   go_enter Try.func45, Try.ntmps45
   try go_wp2_with (first | ((with_reducible refine gate_dst (N := 3) rfl ?_); refine zb (w := w) 3 #[.int .i64 a0_0, .slice A0_1 l0_1.length c0_1] 28 zB ?_; clear HB; intro gb290 w7 HB BK290 GW290; have GE290 := GW290))
   replace BK290 := zM (blk_drew BK290.out)
   replace HB := zM (below_drew1 HB.out)
   refine zs (n := 7) (fun w' => w'.cell? ⟨gb290, 0, none⟩ = some (.int .i64 a0_0) ∧ w'.cell? ⟨gb290, 1, none⟩ = some (.slice A0_1 l0_1.length c0_1)) ⟨(blk_cell BK290.out 0).trans rfl, (blk_cell BK290.out 1).trans rfl⟩ (fun hHeld => ?_)
   generalize w7.drew = w8 at BK290 HB hHeld ⊢
   refine zq 3 19 ?_
   refine zl 0 16 hHeld ?_ (hy := by rintro w' ⟨s0, s1⟩; go_simp; with_reducible rfl)
   refine zl 1 17 hHeld ?_ (hy := by rintro w' ⟨s0, s1⟩; go_simp; with_reducible rfl)
   refine zh 2 18 Try.func58 #[.agg #[.int .i64 a0_0, .slice A0_1 l0_1.length c0_1]] (fun K hK => ?_)
   with_reducible refine (impl_Graph_all.calls a0_0 _ _ l0_1 t291 _ ?side1 ?side2 A5.out).mono ?_
   (case side1 => exact zC (Kd.C_below HR0_1.out HB.out))
   (case side2 => exact HC0_1.out)
   rintro e w9 ⟨rfl, hb⟩
   refine ⟨_, rfl, ?_⟩
   replace BK290 := zM (blk_below (g := gb290) (o := .cells #[.int .i64 a0_0, .slice A0_1 l0_1.length c0_1] 28 (0, 0)) (zK BK290.out) hb)
   replace HB := zM (below_step zB hb)
   (try clear hb)
   (try clear hb2)
   (try clear hk)
   (try clear hi)
   refine hK.out _ _ ⟨(blk_cell BK290.out 0).trans rfl, (blk_cell BK290.out 1).trans rfl⟩ (fun hHeld => ?_)
   clear hK K
   refine zn 18 ?_
   refine zq 4 20 ?_
   refine zh 5 21 Try.func61 #[.agg #[.int .i64 a0_0, .slice A0_1 l0_1.length c0_1], .int .u64 (Go.bits .andNot .u64 t291 a2)] (fun K hK => ?_)
   with_reducible refine (impl_Graph_isFree.calls a0_0 _ _ l0_1 (Go.bits .andNot .u64 t291 a2) t292 _ ?side1 ?side2 A6.out).mono ?_
   (case side1 => exact zC (Kd.C_below HR0_1.out HB.out))
   (case side2 => exact HC0_1.out)
   rintro e w10 ⟨rfl, hb⟩
   refine ⟨_, rfl, ?_⟩
   replace BK290 := zM (blk_below (g := gb290) (o := .cells #[.int .i64 a0_0, .slice A0_1 l0_1.length c0_1] 28 (0, 0)) (zK BK290.out) hb)
   replace HB := zM (below_step zB hb)
   (try clear hb)
   (try clear hb2)
   (try clear hk)
   (try clear hi)
   refine hK.out _ _ ⟨(blk_cell BK290.out 0).trans rfl, (blk_cell BK290.out 1).trans rfl⟩ (fun hHeld => ?_)
   clear hK K
   refine zn 21 ?_
   refine zq 6 6 ?_
   refine zx ?_
   try go_wp2
   go_ret
   exact ⟨by first | rfl | (simp [errW_none, errW_some] <;> rfl) | (simp [*, errW_none, errW_some] <;> rfl), zB⟩
 · rw [if_neg c4] at H
   have c4b0 : (a1 == 1) = false := beq_eq_false_iff_ne.mpr c4
   have c4b1 : (a1 != 1) = true := bne_iff_ne.mpr c4
   by_cases c11 : a1 = 2
   · rw [if_pos c11] at H
     have c11b0 : (a1 == 2) = true := beq_iff_eq.mpr c11
     have c11b1 : (a1 != 2) = false := bne_eq_false_iff_eq.mpr c11
     clear c11
     replace H := Option.bind_eq_some_iff.mp H
     obtain ⟨t293, A120, H⟩ := H
     have A12 := Aside0.mk A120
     clear A120
     have H' := Aside0.mk H
     clear H
     go_enter Try.func45, Try.ntmps45
     go_wp2_with (first | ((with_reducible refine gate_dst (N := 3) rfl ?_); refine zb (w := w) 3 #[.int .i64 a0_0, .slice A0_1 l0_1.length c0_1] 28 zB ?_; clear HB; intro gb290 w13 HB BK290 GW290; have GE290 := GW290) | ((with_reducible refine gate_callee (f := 59) rfl ?_); refine zc 25 Try.func59 #[.int .u64 a2] ?_; (with_reducible refine (impl_bag_list.calls k a2 t293 _ A12.out).mono ?_); rintro e w14 ⟨v294, rfl, ho0, hb⟩; refine ⟨_, rfl, ?_⟩; have HO295 := zM (Kd.R_lower ho0 (below_size zB)); replace BK290 := zM (blk_below (g := gb290) (o := .cells #[.int .i64 a0_0, .slice A0_1 l0_1.length c0_1] 28 (0, 0)) (zK BK290.out) hb); replace HB := zM (below_step zB hb); (try clear hb); (try clear hb2); (try clear hk); (try clear hi); (try clear ho0); obtain ⟨Ao15, co15, eo15⟩ := Kd.R_slice HO295.out; subst eo15))
     go_loopg [28] k (fun kq v28 w' => ∃ (x28_1 : Int), v28 = .int .i64 x28_1 ∧ Aside0 (impl_Graph_hasKind.l0 kq t293 t293 (t293.length : Int) x28_1 a0_0 l0_1 = some r) ∧ Aside0 (kq ≤ k) ∧ Aside0 (Kd.R (Kd.int .i64) 3 w' w.heap.size (fun _ => True) (.slice Ao15 t293.length co15) t293) ∧ Aside0 (Kd.R (Kd.int .i64) 3 w' w.heap.size (fun _ => True) (.slice Ao15 t293.length co15) t293) ∧ Aside0 (w'.heap[gb290]? = some (.cells #[.int .i64 a0_0, (.slice A0_1 l0_1.length c0_1)] 28 (0, 0))) ∧ Aside0 (Below w.heap.size w w'))
     case atStart => exact ⟨(0), (by first | rfl | (simp; done) | (simp [*]; done)), H', ⟨Nat.le_refl _⟩, ⟨zR HO295.out⟩, ⟨zR HO295.out⟩, ⟨zK BK290.out⟩, ⟨zB⟩⟩
     case round =>
      clear H'
      try clear c1
      try clear p2
      try clear c4
      try clear c4b0
      try clear c4b1
      try clear c5
      try clear c6
      try clear c11
      try clear c11b0
      try clear c11b1
      obtain ⟨x28_1, rfl, HA, HK1, HO_7, HO_26, BK290, HB⟩ := hrel
      cases gk with
      | zero => exact absurd HA.out (by simp [impl_Graph_hasKind.l0])
      | succ k1 =>
       have H := HA.out
       clear HA
       simp only [impl_Graph_hasKind.l0] at H
       by_cases c16 : x28_1 < (t293.length : Int)
       · rw [if_pos c16] at H
         have c16b0 := decide_eq_true c16
         clear c16
         by_cases c17 : 0 ≤ x28_1
         · rw [if_pos c17] at H
           have c17b0 := decide_eq_true c17
           clear c17
           by_cases c18 : x28_1 < (t293.length : Int)
           · rw [if_pos c18] at H
             have c18b0 := decide_eq_true c18
             clear c18
             have c19b0 := eq_true (of_decide_eq_true zA : 0 ≤ x28_1)
             by_cases c20 : x28_1 ≤ (t293.length : Int)
             · rw [if_pos c20] at H
               have c20b0 := eq_true c20
               have c20b1 : decide (x28_1 ≤ (t293.length : Int)) = true := decide_eq_true c20
               clear c20
               obtain ⟨y297, hy297⟩ : ∃ y_ : List Int, y_ = (t293.take (x28_1 : Int).toNat) := ⟨_, rfl⟩
               replace H : (impl_Graph_hasKind.l1 k1 t293 (rd t293 x28_1) t293 (t293.length : Int) x28_1 y297 (y297.length : Int) 0 a0_0 l0_1) = some r := by first | (rw [hy297]; with_reducible exact H) | (have H2_ := (Option.bind_some _ _).symm.trans H; rw [hy297]; with_reducible exact H2_) | (have H2_ := (Option.bind_some _ _).symm.trans H; with_reducible exact H2_) | with_reducible exact H | (rw [hy297]; exact H) | exact H
               have Ny297 := Aside0.mk hy297
               clear hy297
               have H' := Aside0.mk H
               clear H
               have p296 : 0 ≤ (x28_1 : Int) := of_decide_eq_true zA
               have q296 : x28_1 < (t293.length : Int) := of_decide_eq_true zA
               obtain ⟨ad296, e296, hx296_0⟩ := Kd.at_int (Kd.R_reads' HO_26.out).2.2 x28_1 p296 q296
               cases e296
               replace p296 := eq_true p296
               replace q296 := eq_true q296
               have q21 : (x28_1 : Int) ≤ ((t293.length : Int) : Int) := of_decide_eq_true zA
               obtain ⟨i021, hi021, _, hsz21, _⟩ := info_parts info3
               have hroom21 : t293.length ≤ co15 := (Kd.R_reads' HO_7.out).2.1
               have hC21 : Kd.C (Kd.int .i64) _ (some ad296) t293.length t293 := (Kd.R_reads' HO_7.out).2.2
               have hcut21 := cut_to (P := Try.prog) 37 3 .i64 Try.underlying37 hi021 (some ad296) t293.length co15 x28_1 (of_decide_eq_true zA) q21 hroom21
               have hr21 := Kd.C_take (m := (x28_1 : Int).toNat) hC21 (by omega)
               have hy21 : y297.length = (x28_1 : Int).toNat := (by rw [Ny297.out, List.length_take]; omega)
               rw [← Ny297.out] at hr21
               rw [← hy21] at hcut21
               have HR300 := Aside0.mk hr21
               have HC300 := zM (show y297.length ≤ co15 from by omega)
               clear hr21 hC21 hroom21 hi021 hsz21
               have KY21 := Aside0.mk hy21
               clear hy21
               have KL21 := zM (show (x28_1 : Int).toNat ≤ t293.length from by omega)
               replace q21 := eq_true q21
               go_wp2
               go_loopg [37] k1 (fun kq v37 w' => ∃ (x37_2 : Int), v37 = .int .i64 x37_2 ∧ Aside0 (impl_Graph_hasKind.l1 kq t293 (rd t293 x28_1) t293 (t293.length : Int) x28_1 y297 (y297.length : Int) x37_2 a0_0 l0_1 = some r) ∧ Aside0 (kq ≤ k1) ∧ Aside0 (Kd.R (Kd.int .i64) 3 w' w.heap.size (fun _ => True) (.slice (some ad296) t293.length co15) t293) ∧ Aside0 (Kd.R (Kd.int .i64) 3 w' w.heap.size (fun _ => True) (.slice (some ad296) t293.length co15) t293) ∧ Aside0 (w'.heap[gb290]? = some (.cells #[.int .i64 a0_0, (.slice A0_1 l0_1.length c0_1)] 28 (0, 0))) ∧ Aside0 (Kd.C (Kd.int .i64) w' (some ad296) y297.length y297) ∧ Aside0 (Below w.heap.size w w'))
               case atStart => exact ⟨(0), (by first | rfl | (simp; done) | (simp [*]; done)), H', ⟨Nat.le_refl _⟩, ⟨zR HO_7.out⟩, ⟨zR HO_26.out⟩, ⟨zK BK290.out⟩, ⟨zC HR300.out⟩, ⟨zB⟩⟩
               case round =>
                clear H'
                try clear c1
                try clear c2
                try clear p2
                try clear q2
                try clear hx2
                try clear c4
                try clear c4b0
                try clear c4b1
                try clear c5
                try clear c6
                try clear c11
                try clear c11b0
                try clear c11b1
                try clear c16
                try clear c16b0
                try clear c17
                try clear c17b0
                try clear c18
                try clear c18b0
                try clear c19
                try clear c19b0
                try clear c20
                try clear c20b0
                try clear c20b1
                try clear q21
                try clear hx296_0
                try clear p2
                try clear p296
                try clear q21
                try clear q296
                obtain ⟨x37_2, rfl, HA, HK2, HO_7, HO_26, BK290, HR300, HB⟩ := hrel
                cases gk with
                | zero => exact absurd HA.out (by simp [impl_Graph_hasKind.l1])
                | succ k2 =>
                 have H := HA.out
                 clear HA
                 simp only [impl_Graph_hasKind.l1] at H
                 by_cases c22 : x37_2 < (y297.length : Int)
                 · rw [if_pos c22] at H
                   have c22b0 := decide_eq_true c22
                   clear c22
                   by_cases c23 : 0 ≤ x37_2
                   · rw [if_pos c23] at H
                     have c23b0 := decide_eq_true c23
                     clear c23
                     by_cases c24 : x37_2 < (y297.length : Int)
                     · rw [if_pos c24] at H
                       have c24b0 := decide_eq_true c24
                       clear c24
                       replace H := Option.bind_eq_some_iff.mp H
                       obtain ⟨t302, A250, H⟩ := H
                       have A25 := Aside0.mk A250
                       clear A250
                       by_cases c26 : t302 = true
                       · subst c26
                         rw [if_pos rfl] at H
                         have H' := Aside0.mk H
                         clear H
                         have p301 : 0 ≤ (x37_2 : Int) := of_decide_eq_true zA
                         have q301 : x37_2 < (y297.length : Int) := of_decide_eq_true zA
                         obtain ⟨ad301, e301, hx301_0⟩ := Kd.at_int HR300.out x37_2 p301 q301
                         obtain rfl : ad296 = ad301 := (by injection e301)
                         (try replace hx301_0 := (HB.out.cell (World.block_lt_of_cell? w _ hx301_0)).trans hx301_0)
                         replace p301 := eq_true p301
                         replace q301 := eq_true q301
                         have hcz27_0 := zy BK290 0
                         have hcz27_1 := zy BK290 1
                         have hfz27_0 := blk_frozen BK290.out 0
                         have hfz27_1 := blk_frozen BK290.out 1
                         go_wp2_with (first | ((with_reducible refine gate_callee (f := 62) rfl ?_); refine zc 44 Try.func62 #[.agg #[.int .i64 a0_0, .slice A0_1 l0_1.length c0_1], .int .i64 (rd t293 x28_1), .int .i64 (rd y297 x37_2)] ?_; (with_reducible refine (impl_Graph_has.calls k2 a0_0 _ _ l0_1 (rd t293 x28_1) (rd y297 x37_2) true _ ?side1 ?side2 A25.out).mono ?_); (case side1 => exact zC (Kd.C_below HR0_1.out HB.out)); (case side2 => exact HC0_1.out); rintro e w28 ⟨rfl, hb⟩; refine ⟨_, rfl, ?_⟩; replace HO_7 := zM (Kd.R_below (zR HO_7.out) hb); replace HO_26 := zM (Kd.R_below (zR HO_26.out) hb); replace BK290 := zM (blk_below (g := gb290) (o := .cells #[.int .i64 a0_0, .slice A0_1 l0_1.length c0_1] 28 (0, 0)) (zK BK290.out) hb); replace HR300 := zM (Kd.C_below (by repeat (first | (with_reducible exact HR300.out) | (with_reducible refine Kd.C_alloc ?_ _) | (with_reducible refine Kd.C_drewN ?_ _) | (with_reducible refine Kd.C_drew ?_) | exact HR300.out)) hb); replace HB := zM (below_step zB hb); (try clear hb); (try clear hb2); (try clear hk); (try clear hi)))
                         go_roundg k2
                         case measure => have := HK1.out; have := HK2.out; omega
                         case rel => exact ⟨(wrap64 (x37_2 + 1)), (by first | rfl | (simp; done) | (simp [*]; done)), H', ⟨by have := HK1.out; have := HK2.out; omega⟩, ⟨zR HO_7.out⟩, ⟨zR HO_26.out⟩, ⟨zK BK290.out⟩, ⟨zC HR300.out⟩, ⟨zB⟩⟩
                       · replace c26 := Bool.eq_false_iff.mpr c26
                         subst c26
                         have H1 : (some false) = some r := by rw [if_neg (show ¬ (false = true) by decide)] at H; exact H
                         clear H
                         have H := H1
                         clear H1
                         obtain rfl := Option.some.inj H
                         have p301 : 0 ≤ (x37_2 : Int) := of_decide_eq_true zA
                         have q301 : x37_2 < (y297.length : Int) := of_decide_eq_true zA
                         obtain ⟨ad301, e301, hx301_0⟩ := Kd.at_int HR300.out x37_2 p301 q301
                         obtain rfl : ad296 = ad301 := (by injection e301)
                         (try replace hx301_0 := (HB.out.cell (World.block_lt_of_cell? w _ hx301_0)).trans hx301_0)
                         replace p301 := eq_true p301
                         replace q301 := eq_true q301
                         have hcz29_0 := zy BK290 0
                         have hcz29_1 := zy BK290 1
                         have hfz29_0 := blk_frozen BK290.out 0
                         have hfz29_1 := blk_frozen BK290.out 1
                         go_wp2_with (first | ((with_reducible refine gate_callee (f := 62) rfl ?_); refine zc 44 Try.func62 #[.agg #[.int .i64 a0_0, .slice A0_1 l0_1.length c0_1], .int .i64 (rd t293 x28_1), .int .i64 (rd y297 x37_2)] ?_; (with_reducible refine (impl_Graph_has.calls k2 a0_0 _ _ l0_1 (rd t293 x28_1) (rd y297 x37_2) false _ ?side1 ?side2 A25.out).mono ?_); (case side1 => exact zC (Kd.C_below HR0_1.out HB.out)); (case side2 => exact HC0_1.out); rintro e w30 ⟨rfl, hb⟩; refine ⟨_, rfl, ?_⟩; replace HO_7 := zM (Kd.R_below (zR HO_7.out) hb); replace HO_26 := zM (Kd.R_below (zR HO_26.out) hb); replace BK290 := zM (blk_below (g := gb290) (o := .cells #[.int .i64 a0_0, .slice A0_1 l0_1.length c0_1] 28 (0, 0)) (zK BK290.out) hb); replace HR300 := zM (Kd.C_below (by repeat (first | (with_reducible exact HR300.out) | (with_reducible refine Kd.C_alloc ?_ _) | (with_reducible refine Kd.C_drewN ?_ _) | (with_reducible refine Kd.C_drew ?_) | exact HR300.out)) hb); replace HB := zM (below_step zB hb); (try clear hb); (try clear hb2); (try clear hk); (try clear hi)))
                         go_ret
                         exact ⟨by first | rfl | (simp [errW_none, errW_some] <;> rfl) | (simp [*, errW_none, errW_some] <;> rfl), zB⟩
                     · rw [if_neg c24] at H
                       exact absurd H (by simp)
                   · rw [if_neg c23] at H
                     exact absurd H (by simp)
                 · rw [if_neg c22] at H
                   have c22b0 : decide (x37_2 < (y297.length : Int)) = false := decide_eq_false c22
                   clear c22
                   have H' := Aside0.mk H
                   clear H
                   go_wp2
                   go_roundg k2
                   case measure => have := HK1.out; have := HK2.out; omega
                   case rel => exact ⟨(wrap64 (x28_1 + 1)), (by first | rfl | (simp; done) | (simp [*]; done)), H', ⟨by have := HK1.out; have := HK2.out; omega⟩, ⟨zR HO_7.out⟩, ⟨zR HO_26.out⟩, ⟨zK BK290.out⟩, ⟨zB⟩⟩
             · rw [if_neg c20] at H
               exact absurd H (by simp)
           · rw [if_neg c18] at H
             exact absurd H (by simp)
         · rw [if_neg c17] at H
           exact absurd H (by simp)
       · rw [if_neg c16] at H
         have c16b0 : decide (x28_1 < (t293.length : Int)) = false := decide_eq_false c16
         clear c16
         obtain rfl := Option.some.inj H
         go_wp2
         go_ret
         exact ⟨by first | rfl | (simp [errW_none, errW_some] <;> rfl) | (simp [*, errW_none, errW_some] <;> rfl), zB⟩
   · rw [if_neg c11] at H
     have c11b0 : (a1 == 2) = false := beq_eq_false_iff_ne.mpr c11
     have c11b1 : (a1 != 2) = true := bne_iff_ne.mpr c11
     have H' := Aside0.mk H
     clear H
     go_enter Try.func45, Try.ntmps45
     go_wp2_with (first | ((with_reducible refine gate_dst (N := 3) rfl ?_); refine zb (w := w) 3 #[.int .i64 a0_0, .slice A0_1 l0_1.length c0_1] 28 zB ?_; clear HB; intro gb290 w31 HB BK290 GW290; have GE290 := GW290; have hcz32_0 := zy BK290 0; have hcz32_1 := zy BK290 1; have hfz32_0 := blk_frozen BK290.out 0; have hfz32_1 := blk_frozen BK290.out 1))
     go_loopg [50] k (fun kq v50 w' => ∃ (x50_1 : Int), v50 = .int .i64 x50_1 ∧ Aside0 (impl_Graph_hasKind.l2 kq a2 a0_0 x50_1 a0_0 l0_1 = some r) ∧ Aside0 (kq ≤ k) ∧ Aside0 (w'.heap[gb290]? = some (.cells #[.int .i64 a0_0, (.slice A0_1 l0_1.length c0_1)] 28 (0, 0))) ∧ Aside0 (Below w.heap.size w w'))
     case atStart => exact ⟨(0), (by first | rfl | (simp; done) | (simp [*]; done)), H', ⟨Nat.le_refl _⟩, ⟨zK BK290.out⟩, ⟨zB⟩⟩
     case round =>
      clear H'
      try clear c1
      try clear c2
      try clear p2
      try clear q2
      try clear hx2
      try clear p3
      try clear q3
      try clear hx3
      try clear c4
      try clear c4b0
      try clear c4b1
      try clear c5
      try clear c6
      try clear p6
      try clear c11
      try clear c11b0
      try clear c11b1
      try clear c16
      try clear c16b0
      try clear c17
      try clear c17b0
      try clear c18
      try clear c18b0
      try clear c19
      try clear c19b0
      try clear c20
      try clear c20b0
      try clear c20b1
      try clear q21
      try clear c22
      try clear c22b0
      try clear c23
      try clear c23b0
      try clear c24
      try clear c24b0
      try clear c26
      try clear p29
      try clear q29
      try clear hx29
      try clear p30
      try clear q30
      try clear hx30
      try clear hcz27_0
      try clear hcz27_1
      try clear hcz29_0
      try clear hcz29_1
      try clear hcz32_0
      try clear hcz32_1
      try clear hfz27_0
      try clear hfz27_1
      try clear hfz29_0
      try clear hfz29_1
      try clear hfz32_0
      try clear hfz32_1
      try clear hx296_0
      try clear hx301_0
      try clear p2
      try clear p296
      try clear p301
      try clear q2
      try clear q21
      try clear q296
      try clear q301
      obtain ⟨x50_1, rfl, HA, HK1, BK290, HB⟩ := hrel
      cases gk with
      | zero => exact absurd HA.out (by simp [impl_Graph_hasKind.l2])
      | succ k1 =>
       have H := HA.out
       clear HA
       simp only [impl_Graph_hasKind.l2] at H
       by_cases c33 : x50_1 < a0_0
       · rw [if_pos c33] at H
         have c33b0 := decide_eq_true c33
         clear c33
         replace H := Option.bind_eq_some_iff.mp H
         obtain ⟨t303, A340, H⟩ := H
         have A34 := Aside0.mk A340
         clear A340
         by_cases c35 : t303 = true
         · subst c35
           rw [if_pos rfl] at H
           have H' := Aside0.mk H
           clear H
           go_wp2_with (first | ((with_reducible refine gate_callee (f := 48) rfl ?_); refine zc 55 Try.func48 #[.int .u64 a2, .int .i64 x50_1] ?_; (with_reducible refine (impl_bag_has.calls a2 x50_1 true _ A34.out).mono ?_); rintro e w' ⟨rfl, ⟨nd, rfl⟩⟩; refine ⟨_, rfl, ?_⟩))
           go_roundg k1
           case measure => have := HK1.out; omega
           case rel => exact ⟨(wrap64 (x50_1 + 1)), (by first | rfl | (simp; done) | (simp [*]; done)), H', ⟨by have := HK1.out; omega⟩, ⟨zK BK290.out⟩, ⟨zB⟩⟩
         · replace c35 := Bool.eq_false_iff.mpr c35
           subst c35
           have H1 : ((impl_Graph_neighbors.f k1 a0_0 l0_1 x50_1).bind fun t304 => ((impl_bagOf.f k1 t304).bind fun t307 => (if (Go.bits .and .u64 t307 a2) = 0 then (some false) else (impl_Graph_hasKind.l2 k1 a2 a0_0 (wrap64 (x50_1 + 1)) a0_0 l0_1)))) = some r := by rw [if_neg (show ¬ (false = true) by decide)] at H; exact H
           clear H
           have H := H1
           clear H1
           replace H := Option.bind_eq_some_iff.mp H
           obtain ⟨t304, A360, H⟩ := H
           have A36 := Aside0.mk A360
           clear A360
           replace H := Option.bind_eq_some_iff.mp H
           obtain ⟨t307, A370, H⟩ := H
           have A37 := Aside0.mk A370
           clear A370
           by_cases c38 : (Go.bits .and .u64 t307 a2) = 0
           · rw [if_pos c38] at H
             have c38b0 : ((Go.bits .and .u64 t307 a2) == 0) = true := beq_iff_eq.mpr c38
             have c38b1 : ((Go.bits .and .u64 t307 a2) != 0) = false := bne_eq_false_iff_eq.mpr c38
             clear c38
             obtain rfl := Option.some.inj H
             go_wp2_with (first | ((with_reducible refine gate_callee (f := 48) rfl ?_); refine zc 55 Try.func48 #[.int .u64 a2, .int .i64 x50_1] ?_; (with_reducible refine (impl_bag_has.calls a2 x50_1 false _ A34.out).mono ?_); rintro e w' ⟨rfl, ⟨nd, rfl⟩⟩; refine ⟨_, rfl, ?_⟩; have hcz39_0 := zy BK290 0; have hcz39_1 := zy BK290 1; have hfz39_0 := blk_frozen BK290.out 0; have hfz39_1 := blk_frozen BK290.out 1) | (go_at_call 63; (with_reducible refine (impl_Graph_neighbors.calls k1 a0_0 _ _ l0_1 x50_1 t304 _ ?side1 ?side2 A36.out).mono ?_); (case side1 => exact zC (Kd.C_below HR0_1.out zB)); (case side2 => exact HC0_1.out); rintro e w40 ⟨v305, rfl, ho0, hb⟩; have HO306 := zM (Kd.R_lower ho0 (below_size zB)); replace BK290 := zM (blk_below (g := gb290) (o := .cells #[.int .i64 a0_0, .slice A0_1 l0_1.length c0_1] 28 (0, 0)) (zK BK290.out) hb); replace HB := zM (below_step zB hb); (try clear hb); (try clear hb2); (try clear hk); (try clear hi); (try clear ho0); obtain ⟨Ao41, co41, eo41⟩ := Kd.R_slice HO306.out; subst eo41) | (go_at_call 32; (with_reducible refine (impl_bagOf.calls k1 _ _ t304 t307 _ ?side1 ?side2 A37.out).mono ?_); (case side1 => exact zC (Kd.R_reads' HO306.out).2.2); (case side2 => exact (Kd.R_reads' HO306.out).2.1); rintro e w' ⟨rfl, ⟨nd, rfl⟩⟩))
             go_ret
             exact ⟨by first | rfl | (simp [errW_none, errW_some] <;> rfl) | (simp [*, errW_none, errW_some] <;> rfl), zB⟩
           · rw [if_neg c38] at H
             have c38b0 : ((Go.bits .and .u64 t307 a2) == 0) = false := beq_eq_false_iff_ne.mpr c38
             have c38b1 : ((Go.bits .and .u64 t307 a2) != 0) = true := bne_iff_ne.mpr c38
             have H' := Aside0.mk H
             clear H
             go_wp2_with (first | ((with_reducible refine gate_callee (f := 48) rfl ?_); refine zc 55 Try.func48 #[.int .u64 a2, .int .i64 x50_1] ?_; (with_reducible refine (impl_bag_has.calls a2 x50_1 false _ A34.out).mono ?_); rintro e w' ⟨rfl, ⟨nd, rfl⟩⟩; refine ⟨_, rfl, ?_⟩; have hcz42_0 := zy BK290 0; have hcz42_1 := zy BK290 1; have hfz42_0 := blk_frozen BK290.out 0; have hfz42_1 := blk_frozen BK290.out 1) | (go_at_call 63; (with_reducible refine (impl_Graph_neighbors.calls k1 a0_0 _ _ l0_1 x50_1 t304 _ ?side1 ?side2 A36.out).mono ?_); (case side1 => exact zC (Kd.C_below HR0_1.out zB)); (case side2 => exact HC0_1.out); rintro e w43 ⟨v305, rfl, ho0, hb⟩; have HO306 := zM (Kd.R_lower ho0 (below_size zB)); replace BK290 := zM (blk_below (g := gb290) (o := .cells #[.int .i64 a0_0, .slice A0_1 l0_1.length c0_1] 28 (0, 0)) (zK BK290.out) hb); replace HB := zM (below_step zB hb); (try clear hb); (try clear hb2); (try clear hk); (try clear hi); (try clear ho0); obtain ⟨Ao44, co44, eo44⟩ := Kd.R_slice HO306.out; subst eo44) | (go_at_call 32; (with_reducible refine (impl_bagOf.calls k1 _ _ t304 t307 _ ?side1 ?side2 A37.out).mono ?_); (case side1 => exact zC (Kd.R_reads' HO306.out).2.2); (case side2 => exact (Kd.R_reads' HO306.out).2.1); rintro e w' ⟨rfl, ⟨nd, rfl⟩⟩))
             go_roundg k1
             case measure => have := HK1.out; omega
             case rel => exact ⟨(wrap64 (x50_1 + 1)), (by first | rfl | (simp; done) | (simp [*]; done)), H', ⟨by have := HK1.out; omega⟩, ⟨zK BK290.out⟩, ⟨zB⟩⟩
       · rw [if_neg c33] at H
         have c33b0 : decide (x50_1 < a0_0) = false := decide_eq_false c33
         clear c33
         obtain rfl := Option.some.inj H
         go_wp2
         go_ret
         exact ⟨by first | rfl | (simp [errW_none, errW_some] <;> rfl) | (simp [*, errW_none, errW_some] <;> rfl), zB⟩

-- NOT PRINTED: function 105 (impl_bag_size)

end Go.Proofs.Ytfaeopmofgnbdaa.P
namespace Go.Proofs.Ytfaeopmofgnbdaa.P
open Go.RowKit Go.Proofs.YtfaeopmofgnbdaaW.PrintWords Go.Proofs.YtfaeopmofgnbdaaW.PrintLast Go.Proofs.YtfaeopmofgnbdaaW.PrintMore
set_option linter.unusedVariables false

theorem l1Has_loop (l : List Int) (x : Int) (hl : l.length ≤ 1048576) (d : Nat) : ∀ (m : Nat), l.length - m = d → m ≤ l.length → Ev (fun k => spec_l1Has.l0 k l x (m : Int)) (decide (x ∈ l.drop m)) := by
  induction d with
  | zero =>
    intro m h0 h1
    refine Ev.step (fun k => by rw [spec_l1Has.l0]) (Ev.neg (by omega) ?_)
    rw [List.drop_eq_nil_of_le (by omega), decide_eq_false (by simp)]
    exact Ev.now _
  | succ d ih =>
    intro m h0 h1
    have hm : m < l.length := by omega
    refine Ev.step (fun k => by rw [spec_l1Has.l0]) (Ev.pos (by omega) (Ev.pos (by omega) ?_))
    rw [rd_at l m hm, List.drop_eq_getElem_cons hm, wrap_up hm (by omega)]
    by_cases c : l[m] = x
    · rw [decide_eq_true (by rw [c]; exact List.mem_cons_self ..)]
      exact Ev.pos c (Ev.now _)
    · have h := ih (m + 1) (by omega) (by omega)
      rw [show decide (x ∈ l[m] :: l.drop (m + 1)) = decide (x ∈ l.drop (m + 1)) from by
        rw [decide_eq_decide, List.mem_cons]
        exact ⟨fun h => h.resolve_left (fun h => c h.symm), .inr⟩]
      exact Ev.neg c h
theorem l1Has_ev (l : List Int) (x : Int) (hl : l.length ≤ 1048576) : Ev (fun k => spec_l1Has.f k l x) (decide (x ∈ l)) := by
  have := l1Has_loop l x hl l.length 0 (by omega) (Nat.zero_le _)
  unfold spec_l1Has.f
  simpa only [List.drop_zero, Int.natCast_zero] using this
/-- The numbers of a row of d from y on that pass. -/
def selI (f : Int → Bool) : Nat → Int → List Int
  | 0, _ => []
  | d + 1, y => (if f y = true then [y] else []) ++ selI f d (y + 1)
theorem selI_len (f : Int → Bool) (d : Nat) : ∀ y, (selI f d y).length ≤ d := by
  induction d with
  | zero => intro y; simp [selI]
  | succ d ih =>
    intro y
    have := ih (y + 1)
    simp only [selI, List.length_append]
    split <;> simp only [List.length_nil, List.length_cons] <;> omega
theorem selI_congr (f g : Int → Bool) (d : Nat) : ∀ y, (∀ z, y ≤ z → z < y + (d : Int) → f z = g z) → selI f d y = selI g d y := by
  induction d with
  | zero => intro y _; rfl
  | succ d ih =>
    intro y h
    simp only [selI]
    rw [h y (by omega) (by omega), ih (y + 1) (fun z h1 h2 => h z (by omega) (by omega))]
theorem selI_none (f : Int → Bool) (d : Nat) : ∀ y, (∀ z, y ≤ z → z < y + (d : Int) → f z = false) → selI f d y = [] := by
  induction d with
  | zero => intro y _; rfl
  | succ d ih =>
    intro y h
    simp only [selI]
    rw [h y (by omega) (by omega), ih (y + 1) (fun z h1 h2 => h z (by omega) (by omega))]
    rfl
theorem selI_add (f : Int → Bool) (d e : Nat) : ∀ y, selI f (d + e) y = selI f d y ++ selI f e (y + (d : Int)) := by
  induction d with
  | zero => intro y; simp [selI]
  | succ d ih =>
    intro y
    rw [show d + 1 + e = (d + e) + 1 by omega]
    simp only [selI]
    rw [ih (y + 1), List.append_assoc, show y + 1 + (d : Int) = y + ((d + 1 : Nat) : Int) by omega]
theorem selI_mem (f : Int → Bool) (d : Nat) : ∀ y z, z ∈ selI f d y ↔ (y ≤ z ∧ z < y + (d : Int)) ∧ f z = true := by
  induction d with
  | zero => intro y z; simp only [selI, List.not_mem_nil, false_iff]; omega
  | succ d ih =>
    intro y z
    simp only [selI, List.mem_append, ih]
    by_cases c : f y = true
    · rw [if_pos c, List.mem_singleton]
      constructor
      · rintro (rfl | h)
        · exact ⟨by omega, c⟩
        · exact ⟨by omega, h.2⟩
      · rintro ⟨h, hf⟩
        by_cases hz : z = y
        · exact .inl hz
        · exact .inr ⟨by omega, hf⟩
    · rw [if_neg c]
      constructor
      · rintro (h | h)
        · simp at h
        · exact ⟨by omega, h.2⟩
      · rintro ⟨h, hf⟩
        by_cases hz : z = y
        · subst hz; exact absurd hf c
        · exact .inr ⟨by omega, hf⟩
def allI (n : Int) : Int := IntKind.u64.wrap ((shl .u64 1 n) - 1)
def lessI (b c : Int) : Int := Go.bits .andNot .u64 b c
theorem lessI_fin : ∀ n : Fin 9, ∀ b : Fin 256, (0 ≤ lessI (allI n) b ∧ lessI (allI n) b < 256) ∧ ∀ y : Fin 8, hasI (lessI (allI n) b) y = (decide (y.val < n.val) && !hasI b y) := by decide +kernel
theorem lessI_at {n b : Int} (hn : 0 ≤ n ∧ n ≤ 8) (hb : 0 ≤ b ∧ b < 256) : (0 ≤ lessI (allI n) b ∧ lessI (allI n) b < 256) ∧ ∀ y, 0 ≤ y → y < 8 → hasI (lessI (allI n) b) y = (decide (y < n) && !hasI b y) := by
  obtain ⟨i, rfl⟩ := fin_of (n := 9) hn.1 (by omega)
  obtain ⟨j, rfl⟩ := fin_of (n := 256) hb.1 hb.2
  have h := lessI_fin i j
  refine ⟨h.1, fun y h0 h8 => ?_⟩
  obtain ⟨q, rfl⟩ := fin_of (n := 8) h0 h8
  rw [h.2 q]
  congr 1
  rw [decide_eq_decide]
  omega
theorem bag_list_loop (b : Int) (d : Nat) : ∀ (y : Int) (acc : List Int), (8 - y).toNat = d → 0 ≤ y → acc.length + d ≤ 1000 → Ev (fun k => impl_bag_list.l0 k b acc y) (acc ++ selI (hasI b) d y) := by
  induction d with
  | zero =>
    intro y acc h0 h1 h2
    refine Ev.step (fun k => by rw [impl_bag_list.l0]) (Ev.neg (by omega) ?_)
    simp only [selI, List.append_nil]
    exact Ev.now _
  | succ d ih =>
    intro y acc h0 h1 h2
    refine Ev.step (fun k => by rw [impl_bag_list.l0]) (Ev.pos (by omega) (Ev.pos (by omega) ?_))
    have hw : wrap64 (y + 1) = y + 1 := wrap_nat (by omega) (by omega)
    rw [hw, selI]
    by_cases c : hasI b y = true
    · rw [if_pos c, ← List.append_assoc]
      refine Ev.pos (by simpa only [hasI, beq_iff_eq] using c) (Ev.pos (by omega) ?_)
      exact ih (y + 1) _ (by omega) (by omega) (by rw [List.length_append, List.length_singleton]; omega)
    · rw [if_neg c, List.nil_append]
      exact Ev.neg (by simpa only [hasI, beq_iff_eq] using c) (ih (y + 1) acc (by omega) (by omega) (by omega))
theorem bag_list_ev (b : Int) : Ev (fun k => impl_bag_list.f k b) (selI (hasI b) 8 0) := by
  unfold impl_bag_list.f
  have := bag_list_loop b 8 0 [] (by omega) (by omega) (by simp)
  simpa only [List.nil_append] using this
theorem set_small {a : Int} {e : List S48} {l : List Int} (h : okG a e = true) (c : risI 0 (wrap64 (a - 1)) none l = true) : ∀ x ∈ l, 0 ≤ x ∧ x < 8 := fun x hx => by
  have h1 := okG_all h
  have hw : wrap64 (a - 1) = a - 1 := wrap_nat (by omega) (by omega)
  have := risI_all _ _ l none c x hx
  omega
end Go.Proofs.Ytfaeopmofgnbdaa.P
namespace Go.Proofs.Ytfaeopmofgnbdaa.P
open Go.RowKit Go.Proofs.YtfaeopmofgnbdaaW.PrintWords Go.Proofs.YtfaeopmofgnbdaaW.PrintLast Go.Proofs.YtfaeopmofgnbdaaW.PrintMore
set_option linter.unusedVariables false
set_option linter.unusedSimpArgs false

theorem compare_CmpL : CmpL 60 cmpL := by
  intro W x y A B c c' hx hc hy hc'
  refine (slices_Compare_int_int.calls (x.length + 1) A c x B c' y (cmpL x y) W hx hc hy hc' (slices_Compare_at x y hx.2.1 _ (Nat.lt_succ_self _))).mono ?_
  rintro e w' ⟨rfl, ⟨n, rfl⟩⟩
  exact ⟨rfl, n, #[], (Sort.grow_empty _).symm⟩
theorem ltOf_cmpL : ltOf cmpL = befL := by
  funext x y
  unfold ltOf
  rw [Bool.eq_iff_iff, decide_eq_true_eq]
  exact cmpL_neg x y
theorem swo_befL : Sort.SWO befL := ⟨befL_irrefl, fun x y z => befL_trans x y z, fun x y z => befL_ntrans⟩
theorem sortLists.calls (P0_ : Nat → Prop) (u9000_ : Value) (l0 : List (List Int)) (w0 w : World) (hB : Below w0.heap.size w0 w) (ho0 : Kd.S (Kd.slice 3 (Kd.int .i64)) 37 w w0.heap.size P0_ u9000_ l0) (hlen : l0.length < 4611686018427387904) :
    Calls Try.prog 46 #[u9000_, .func (.func 60) #[] #[]] w fun e w' => e = .returned (.tuple #[]) ∧ Kd.S (Kd.slice 3 (Kd.int .i64)) 37 w' w0.heap.size (fun k_ => (P0_ k_ ∨ w.heap.size ≤ k_)) u9000_ (sortLL l0) ∧ Below w0.heap.size w0 w' ∧ Kept w w' (fun k_ => P0_ k_) := by
  have h := sortFunc_lists Try.laysSlF6_f46 Try.laysSlF06_f46 46 rfl rfl cmpL (by rw [ltOf_cmpL]; exact swo_befL) (by rw [ltOf_cmpL]; exact befL_tri) 60 (enters_of Try.func60 (by kernel_rfl) rfl) compare_CmpL P0_ u9000_ l0 w0 w hB ho0 hlen
  rw [ltOf_cmpL] at h
  exact h
/-- The sets of the codes below n of which p is so. -/
def codesL (p : Int → Bool) (n : Nat) : List (List Int) := (selI p n 0).map fun b => selI (hasI b) 8 0
theorem codesL_succ (p : Int → Bool) (n : Nat) : codesL p (n + 1) = codesL p n ++ (if p (n : Int) = true then [selI (hasI (n : Int)) 8 0] else []) := by
  unfold codesL
  rw [selI_add, List.map_append]
  congr 1
  simp only [selI, List.append_nil, Int.zero_add]
  split <;> rfl
theorem codesL_len (p : Int → Bool) (n : Nat) : (codesL p n).length ≤ n := by
  unfold codesL
  rw [List.length_map]
  exact selI_len p n 0
theorem allI_pow : ∀ n : Fin 9, allI n = ((2 ^ n.val - 1 : Nat) : Int) := by decide +kernel
theorem all_at (a : Int) (l : List S48) (h0 : 0 ≤ a) (h8 : a ≤ 8) : impl_Graph_all.f a l = some ((2 ^ a.toNat - 1 : Nat) : Int) := by
  unfold impl_Graph_all.f
  rw [if_pos h0]
  obtain ⟨i, rfl⟩ := fin_of (n := 9) h0 (by omega)
  exact congrArg some (allI_pow i)
/-- Function g, bound to the variables lb, answers p of a set's code; memory that was there stays. -/
def PredN (g : Nat) (lb : Array Value) (p : Int → Bool) (N : Nat) (w : World) : Prop :=
  ∀ (W : World) (b : Int), 0 ≤ b → b < (N : Int) → Below w.heap.size w W → Calls Try.prog g (#[.int .u64 b] ++ lb) W fun e w' => e = .returned (.bool (p b)) ∧ Below W.heap.size W w'
theorem PredN.mono {g : Nat} {lb : Array Value} {p : Int → Bool} {N : Nat} {w w' : World} (h : PredN g lb p N w) (hb : Below w.heap.size w w') : PredN g lb p N w' := fun W b h0 h1 h2 => h W b h0 h1 (below_step hb h2)
set_option maxRecDepth 100000 in
set_option maxHeartbeats 2000000 in
theorem sets_calls (g : Nat) (lb : Array Value) (eg : ∀ (args : Array Value) (w : World), (callFunc g args).run Try.prog w = .ok (.enter g args) w) (p : Int → Bool) (a0 : Int) (h0 : 0 ≤ a0) (h8 : a0 ≤ 8) (A1 : Option Addr) (c1 : Nat) (l1 : List S48) (w : World)
    (hr : Kd.C k48 w A1 l1.length l1) (hc : l1.length ≤ c1) (hp : PredN g lb p (2 ^ a0.toNat) w) :
    Calls Try.prog 43 #[.agg #[.int .i64 a0, .slice A1 l1.length c1], .func (.func g) #[] lb] w fun e w' => ∃ v : Value, e = .returned v ∧ Kd.S (Kd.slice 3 (Kd.int .i64)) 37 w' w.heap.size (fun _ => True) v (sortLL (codesL p (2 ^ a0.toNat))) ∧ Below w.heap.size w w' := by
  have hu43 := Try.underlying28
  have hpow : 2 ^ a0.toNat ≤ 256 := Nat.pow_le_pow_right (n := 2) (by decide) (show a0.toNat ≤ 8 by omega)
  have hpos : 0 < 2 ^ a0.toNat := Nat.pow_pos (by decide)
  obtain ⟨M, hM⟩ : ∃ M : Nat, 2 ^ a0.toNat = M + 1 := ⟨2 ^ a0.toNat - 1, by omega⟩
  have hall := all_at a0 l1 h0 h8
  rw [hM, Nat.add_sub_cancel] at hall
  rw [hM] at hpow hp ⊢
  have HAL := zM hall
  have HM := zM hpow
  have HR := zM hr
  have HC := zM hc
  have HP := zM hp
  have HB := zM (Below.refl w.heap.size w)
  clear hr hc hp hall hpow hpos hM h0 h8
  go_enter Try.func43, Try.ntmps43
  go_wp2_with (first | ((with_reducible refine gate_dst (N := 2) rfl ?_); refine zb (w := w) 2 #[.int .i64 a0, .slice A1 l1.length c1] 28 zB ?_; clear HB; intro gb w3 HB BK GW) | ((with_reducible refine gate_dst (N := 7) rfl ?_); refine Kd.S_lit (Kd.slice 3 (Kd.int .i64)) _ 37 ?hg (N := 7) ?hd (xs := ([] : List (List Int))) (inner := []) (ok := fun _ => True) (okp := fun _ => True) ?hr ?hp (fun _ hk => hk) trivial (Below.refl _ _) (Nat.le_refl _) (by simp) ?_; (case hd => rfl); (case hg => rfl); (case hr => first | (go_simp; done) | (go_simp; rfl)); (case hp => exact (Reps.none _ _)); intro v4 w4 ho5 hb hg_ hnew_; clear hg_ hnew_; have HO := zM (Kd.S_lower ho5 (below_size zB)); replace BK := zM (blk_below (zK BK.out) hb); replace HB := zM (below_step zB hb); clear hb ho5))
  go_loopg [5, 6] (M + 2) (fun kq v5 v6 w' => ∃ (m : Nat), v6 = .int .u64 (m : Int) ∧ Aside0 (m ≤ M + 1) ∧ Aside0 (kq = M + 2 - m) ∧ Aside0 (Kd.S (Kd.slice 3 (Kd.int .i64)) 37 w' w.heap.size (fun _ => True) v5 (codesL p m)) ∧ Aside0 (w'.heap[gb]? = some (.cells #[.int .i64 a0, .slice A1 l1.length c1] 28 (0, 0))) ∧ Aside0 (Below w.heap.size w w'))
  case atStart => exact ⟨0, by first | rfl | (simp; done), ⟨Nat.zero_le _⟩, ⟨by omega⟩, HO, BK, HB⟩
  case round =>
    clear HO BK HB
    obtain ⟨m, rfl, HM1, HK1, HO, BK, HB⟩ := hrel
    have hcz0 := zy BK 0
    have hcz1 := zy BK 1
    have hfz0 := blk_frozen BK.out 0
    have hfz1 := blk_frozen BK.out 1
    by_cases c1_ : m ≤ M
    · have q1 : (m : Int) ≤ (M : Int) := by omega
      have c1b : decide ((m : Int) ≤ (M : Int)) = true := decide_eq_true q1
      have c1c : decide (m ≤ M) = true := decide_eq_true c1_
      have HW := zM (show IntKind.u64.wrap ((m : Int) + 1) = ((m + 1 : Nat) : Int) by have := HM.out; show ((m : Int) + 1) % 18446744073709551616 = _; omega)
      have HLe := zM c1_
      have HX := zM (HP.out.mono HB.out)
      have HLn := zM (codesL_len p m)
      have HS := zM (codesL_succ p m)
      obtain ⟨kf, hf⟩ := Ev.rounds (bag_list_ev (m : Int))
      have HF := zM hf
      clear q1 c1_ hf
      cases hq : p (m : Int) with
      | true =>
        rw [hq, if_pos rfl] at HS
        have HQ := zM hq
        clear hq
        generalize codesL p m = xs at HO HLn HS
        go_wp2_with (first
          | (go_at_call 58; refine (impl_Graph_all.calls a0 _ _ l1 (M : Int) _ (zC (Kd.C_below HR.out HB.out)) HC.out HAL.out).mono ?_; rintro e w5 ⟨rfl, hb⟩; replace HO := zM (Kd.S_below HO.out hb); replace BK := zM (blk_below (zK BK.out) hb); replace HX := zM (HX.out.mono hb); replace HB := zM (below_step zB hb); clear hb)
          | (go_at_fn g; refine (HX.out _ (m : Int) (by omega) (by have := HLe.out; omega) (Below.refl _ _)).mono ?_; rw [HQ.out]; rintro e w6 ⟨rfl, hb⟩; replace HO := zM (Kd.S_below HO.out hb); replace BK := zM (blk_below (zK BK.out) hb); replace HB := zM (below_step zB hb); clear hb)
          | (go_at_call 59; refine (impl_bag_list.calls kf _ (selI (hasI (m : Int)) 8 0) _ HF.out).mono ?_; rintro e w7 ⟨v7, rfl, ho0, hb⟩; replace HO := zM (Kd.S_elder' HO.out (Kd.R_base ho0) hb); have HI := zM (Kd.R_lower ho0 (below_size zB)); replace BK := zM (blk_below (zK BK.out) hb); replace HB := zM (below_step zB hb); clear ho0 hb; generalize selI (hasI (m : Int)) 8 0 = row at HI HS; obtain ⟨Ao, co, eo⟩ := Kd.R_slice HI.out; subst eo)
          | ((with_reducible refine gate_builtin (b := .append) (xs := #[.tmp 17, .tmp 20]) rfl ?_); at_builtin; refine Kd.S_append (Kd.slice 3 (Kd.int .i64)) (w0 := w) w.heap.size rfl (.tmp 17) (.tmp 20) 34 37 (.slice none 0 0) 24 rfl Try.underlying34 info37 rfl (by decide) (by omega) u5 xs row [.slice Ao row.length co] (fun _ => True) (fun k_ => some k_ = (.slice Ao row.length co : Value).ownBlock) rfl rfl ?aP (fun k_ hk_ => ((Kd.R_mono (ok' := fun k_ => ((fun _ => True)) k_ ∧ some k_ ≠ (u5 : Value).ownBlock) (Kd.R_apart' (HI.out) (Kd.S_typed HO.out) (by decide)) (fun k_ hk => ⟨trivial, hk.2⟩))).1 k_ hk_.symm) ?aF ?aO ?aB ?aS ?aL ?_; (case aP => exact Kd.M_row (Kd.R_mono (Kd.R_tight rfl (Kd.R_mono (ok' := fun k_ => ((fun _ => True)) k_ ∧ some k_ ≠ (u5 : Value).ownBlock) (Kd.R_apart' (HI.out) (Kd.S_typed HO.out) (by decide)) (fun k_ hk => ⟨trivial, hk.2⟩))) (fun _ h_ => h_))); (case aB => exact zB); (case aF => exact (fun _ _ => trivial)); (case aO => exact (by (with_reducible repeat (first | apply Kd.S_alloc | apply Kd.S_drewN | apply Kd.S_drew)); exact Kd.S_mono HO.out (fun k_ hk => ⟨trivial, fun e_ => hk.2 e_⟩))); (case aS => exact (below_size zB)); (case aL => have := HLn.out; have := HM.out; have := HLe.out; omega); intro v8 w8 ho hb hg hat; rw [← HS.out] at ho; replace BK := zM (blk_grown (zK BK.out) hg (Kd.S_ne HO.out BK.out (by decide))); replace HB := zM hb; replace HO := zM ho; clear ho hb hg hat))
        go_roundg (M + 1 - m)
        case measure => have := HK1.out; have := HLe.out; omega
        case rel => exact ⟨m + 1, by first | rfl | exact congrArg (Value.int .u64) HW.out | (rw [HW.out]; done), ⟨by have := HLe.out; omega⟩, ⟨by omega⟩, HO, BK, HB⟩
      | false =>
        rw [hq, if_neg (by decide), List.append_nil] at HS
        have HQ := zM hq
        clear hq
        rw [← HS.out] at HO
        go_wp2_with (first
          | (go_at_call 58; refine (impl_Graph_all.calls a0 _ _ l1 (M : Int) _ (zC (Kd.C_below HR.out HB.out)) HC.out HAL.out).mono ?_; rintro e w5 ⟨rfl, hb⟩; replace HO := zM (Kd.S_below HO.out hb); replace BK := zM (blk_below (zK BK.out) hb); replace HX := zM (HX.out.mono hb); replace HB := zM (below_step zB hb); clear hb)
          | (go_at_fn g; refine (HX.out _ (m : Int) (by omega) (by have := HLe.out; omega) (Below.refl _ _)).mono ?_; rw [HQ.out]; rintro e w6 ⟨rfl, hb⟩; replace HO := zM (Kd.S_below HO.out hb); replace BK := zM (blk_below (zK BK.out) hb); replace HB := zM (below_step zB hb); clear hb))
        go_roundg (M + 1 - m)
        case measure => have := HK1.out; have := HLe.out; omega
        case rel => exact ⟨m + 1, by first | rfl | exact congrArg (Value.int .u64) HW.out | (rw [HW.out]; done), ⟨by have := HLe.out; omega⟩, ⟨by omega⟩, HO, BK, HB⟩
    · have q1 : ¬ (m : Int) ≤ (M : Int) := by omega
      have c1b : decide ((m : Int) ≤ (M : Int)) = false := decide_eq_false q1
      have c1c : decide (m ≤ M) = false := decide_eq_false c1_
      have hm : m = M + 1 := by have := HM1.out; omega
      have HE := zM hm
      have HLn := zM (codesL_len p m)
      clear q1 c1_ hm
      go_wp2_with (first
          | (go_at_call 58; refine (impl_Graph_all.calls a0 _ _ l1 (M : Int) _ (zC (Kd.C_below HR.out HB.out)) HC.out HAL.out).mono ?_; rintro e w5 ⟨rfl, hb⟩; replace HO := zM (Kd.S_below HO.out hb); replace BK := zM (blk_below (zK BK.out) hb); replace HB := zM (below_step zB hb); clear hb)
          | (go_at_call 46; refine (sortLists.calls (fun _ => True) _ (codesL p m) w _ HB.out HO.out (by have := HLn.out; have := HE.out; have := HM.out; omega)).mono ?_; rintro e w9 ⟨rfl, ho, hb, hk⟩; replace HO := zM (Kd.S_mono (ok' := fun _ => True) ho (fun _ _ => trivial)); replace HB := zM hb; clear ho hb hk))
      go_ret
      exact ⟨_, rfl, by rw [← HE.out]; exact HO.out, HB.out⟩
end Go.Proofs.Ytfaeopmofgnbdaa.P
namespace Go.Proofs.Ytfaeopmofgnbdaa.P
open Go.RowKit Go.Proofs.YtfaeopmofgnbdaaW.PrintWords Go.Proofs.YtfaeopmofgnbdaaW.PrintLast Go.Proofs.YtfaeopmofgnbdaaW.PrintMore
set_option linter.unusedVariables false
set_option linter.unusedSimpArgs false

/-- The later world has draws and blocks more; nothing else. -/
def Grew (w w' : World) : Prop := ∃ q os, w' = Sort.grow (w.drewN q) os
theorem Grew.refl (w : World) : Grew w w := ⟨0, #[], (Sort.grow_empty _).symm⟩
theorem Grew.drewN {w w' : World} (h : Grew w w') (n : Nat) : Grew w (w'.drewN n) := by
  obtain ⟨q, os, rfl⟩ := h
  refine ⟨q + n, os, ?_⟩
  simp only [Sort.grow, World.drewN, Nat.add_assoc]
theorem Grew.drew {w w' : World} (h : Grew w w') : Grew w w'.drew := h.drewN 1
theorem Grew.alloc {w w' : World} (h : Grew w w') (o : Obj) : Grew w (w'.alloc o) := by
  obtain ⟨q, os, rfl⟩ := h
  refine ⟨q, os.push o, ?_⟩
  simp only [Sort.grow, World.drewN, World.alloc, Array.append_push]
theorem two_C (W : World) (a b : Int) (t : Nat) : Kd.C (Kd.int .i64) (W.alloc (.cells #[.int .i64 a, .int .i64 b] t)) (some ⟨W.heap.size, 0, none⟩) [a, b].length [a, b] := by
  refine Kd.C_of_reads (enc := Value.int .i64) (d := 0) ⟨rfl, by show (2 : Nat) ≤ _; decide, fun _ => ⟨_, rfl, fun j hj => ?_⟩⟩
  rcases j with _ | _ | j
  · rw [add_plain]; go_simp
  · rw [add_plain]; go_simp
  · exact absurd hj (by show ¬ (j + 1 + 1 < 2); omega)
theorem or_at (x y : Int) : cmp_Or_int.f 3 [x, y] = some (if x = 0 then y else x) := by
  have h1 : rd [x, y] 0 = x := rfl
  have h2 : rd [x, y] 1 = y := rfl
  have hw : wrap64 (0 + 1) = 1 := by unfold wrap64; omega
  have hw2 : wrap64 (1 + 1) = 2 := by unfold wrap64; omega
  have e0 : (0 : Int) < (([x, y] : List Int).length : Int) := by show (0 : Int) < 2; decide
  have e1 : (1 : Int) < (([x, y] : List Int).length : Int) := by show (1 : Int) < 2; decide
  have e2 : ¬ (2 : Int) < (([x, y] : List Int).length : Int) := by show ¬ (2 : Int) < 2; decide
  unfold cmp_Or_int.f
  simp only [cmp_Or_int.l0, if_pos e0, if_pos e1, if_neg e2, h1, h2, hw, hw2, if_pos (show (0 : Int) ≤ 0 by decide), if_pos (show (0 : Int) ≤ 1 by decide)]
  by_cases c : x = 0
  · by_cases c2 : y = 0
    · simp [c, c2]
    · simp [c, c2]
  · simp [c]
def cmpS (a b : List Int) : Int := if cmpI (a.length : Int) (b.length : Int) = 0 then cmpL a b else cmpI (a.length : Int) (b.length : Int)
set_option maxHeartbeats 1000000 in
theorem compareSets_CmpL : CmpL 47 cmpS := by
  intro W x y A B c c' hx hc hy hc'
  have HX := zM hx
  have HY := zM hy
  have HC := zM hc
  have HC' := zM hc'
  have HLx := zM hx.2.1
  clear hx hy hc hc'
  obtain ⟨p, hp⟩ : ∃ p, p = cmpI (x.length : Int) (y.length : Int) := ⟨_, rfl⟩
  obtain ⟨q, hq⟩ : ∃ q, q = cmpL x y := ⟨_, rfl⟩
  have HP := zM (show cmp_Compare_int.f (x.length : Int) (y.length : Int) = some p by rw [hp]; exact cmp_Compare_at _ _)
  have HQ := zM (show slices_Compare_int_int.f (x.length + 1) x y = some q by rw [hq]; exact slices_Compare_at x y HLx.out _ (Nat.lt_succ_self _))
  have HE := zM (show cmpS x y = (if p = 0 then q else p) by rw [hp, hq]; rfl)
  rw [HE.out]
  have HO := zM (or_at p q)
  clear hp hq HE
  generalize (if p = 0 then q else p) = r at HO ⊢
  go_enter Try.func47, Try.ntmps47
  go_wp2_with (first
    | (go_at_call 57; refine (cmp_Compare_int.calls _ _ p _ HP.out).mono ?_; rintro e w1 ⟨rfl, ⟨n1, rfl⟩⟩)
    | (go_at_call 60; refine (slices_Compare_int_int.calls _ A c x B c' y q _ (zC HX.out) HC.out (zC HY.out) HC'.out HQ.out).mono ?_; rintro e w2 ⟨rfl, ⟨n2, rfl⟩⟩)
    | (go_at_call 56; refine (cmp_Or_int.calls 3 _ 2 [p, q] r _ (two_C _ p q _) (Nat.le_refl _) HO.out).mono ?_; rintro e w3 ⟨rfl, ⟨n3, rfl⟩⟩))
  go_ret
  exact ⟨rfl, show Grew W _ from (((Grew.refl W).drewN _).alloc _).drewN _⟩
end Go.Proofs.Ytfaeopmofgnbdaa.P
namespace Go.Proofs.Ytfaeopmofgnbdaa.P
open Go.RowKit Go.Proofs.YtfaeopmofgnbdaaW.PrintWords Go.Proofs.YtfaeopmofgnbdaaW.PrintLast Go.Proofs.YtfaeopmofgnbdaaW.PrintMore
set_option linter.unusedVariables false
set_option linter.unusedSimpArgs false

def befS (x y : List Int) : Bool := decide (cmpS x y < 0)
theorem befS_eq (x y : List Int) : befS x y = (if x.length = y.length then befL x y else decide (x.length < y.length)) := by
  unfold befS cmpS cmpI
  by_cases h : x.length < y.length
  · rw [if_neg (by omega : ¬ x.length = y.length), if_pos (by omega : (x.length : Int) < y.length), if_neg (by decide), decide_eq_true h]
    rfl
  · by_cases h2 : x.length = y.length
    · rw [if_pos h2, if_neg (by omega : ¬ (x.length : Int) < y.length), if_neg (by omega : ¬ (x.length : Int) > y.length), if_pos rfl, Bool.eq_iff_iff, decide_eq_true_eq]
      exact cmpL_neg x y
    · rw [if_neg h2, if_neg (by omega : ¬ (x.length : Int) < y.length), if_pos (by omega : (x.length : Int) > y.length), if_neg (by decide), decide_eq_false h]
      rfl
theorem befS_irrefl (x : List Int) : befS x x = false := by rw [befS_eq, if_pos rfl]; exact befL_irrefl x
theorem befS_trans (x y z : List Int) (h1 : befS x y = true) (h2 : befS y z = true) : befS x z = true := by
  rw [befS_eq] at *
  by_cases a : x.length = y.length
  · rw [if_pos a] at h1
    by_cases b : y.length = z.length
    · rw [if_pos b] at h2
      rw [if_pos (a.trans b)]
      exact befL_trans x y z h1 h2
    · rw [if_neg b, decide_eq_true_eq] at h2
      rw [if_neg (by omega), decide_eq_true_eq]
      omega
  · rw [if_neg a, decide_eq_true_eq] at h1
    by_cases b : y.length = z.length
    · rw [if_neg (by omega), decide_eq_true_eq]
      omega
    · rw [if_neg b, decide_eq_true_eq] at h2
      rw [if_neg (by omega), decide_eq_true_eq]
      omega
theorem befS_tri (x y : List Int) (h1 : befS x y = false) (h2 : befS y x = false) : x = y := by
  rw [befS_eq] at *
  by_cases a : x.length = y.length
  · rw [if_pos a] at h1
    rw [if_pos a.symm] at h2
    exact befL_tri x y h1 h2
  · rw [if_neg a, decide_eq_false_iff_not] at h1
    rw [if_neg (fun h => a h.symm), decide_eq_false_iff_not] at h2
    omega
theorem befS_asymm {x y : List Int} (h : befS x y = true) : befS y x = false := by
  cases h2 : befS y x with
  | false => rfl
  | true =>
    have := befS_trans x y x h h2
    rw [befS_irrefl] at this
    exact absurd this (by decide)
theorem befS_ntrans (x y z : List Int) (h1 : befS x y = false) (h2 : befS y z = false) : befS x z = false := by
  cases h : befS x z with
  | false => rfl
  | true =>
    cases h3 : befS y x with
    | true =>
      have := befS_trans y x z h3 h
      rw [h2] at this
      exact absurd this (by decide)
    | false =>
      have := befS_tri x y h1 h3
      subst this
      rw [h2] at h
      exact absurd h (by decide)
theorem swo_befS : Sort.SWO befS := ⟨befS_irrefl, befS_trans, befS_ntrans⟩
def sortSS (ls : List (List Int)) : List (List Int) := ls.mergeSort (fun x y => !befS y x)
theorem sortSizes.calls (P0_ : Nat → Prop) (u9000_ : Value) (l0 : List (List Int)) (w0 w : World) (hB : Below w0.heap.size w0 w) (ho0 : Kd.S (Kd.slice 3 (Kd.int .i64)) 37 w w0.heap.size P0_ u9000_ l0) (hlen : l0.length < 4611686018427387904) :
    Calls Try.prog 46 #[u9000_, .func (.func 47) #[] #[]] w fun e w' => e = .returned (.tuple #[]) ∧ Kd.S (Kd.slice 3 (Kd.int .i64)) 37 w' w0.heap.size (fun k_ => (P0_ k_ ∨ w.heap.size ≤ k_)) u9000_ (sortSS l0) ∧ Below w0.heap.size w0 w' ∧ Kept w w' (fun k_ => P0_ k_) :=
  sortFunc_lists Try.laysSlF6_f46 Try.laysSlF06_f46 46 rfl rfl cmpS swo_befS befS_tri 47 (enters_of Try.func47 (by kernel_rfl) rfl) compareSets_CmpL P0_ u9000_ l0 w0 w hB ho0 hlen
/-- What the closure of ofKind answers. -/
theorem ofKind1_any (ga gk : Nat) (a0 : Int) (A1 : Option Addr) (c1 : Nat) (l1 : List S48) (kind b : Int) (k : Nat) (r : Bool) (hf : impl_Graph_hasKind.f k a0 l1 kind b = some r) (W : World) (hg0 : W.cell? ⟨ga, 0, none⟩ = some (.int .i64 a0)) (hg1 : W.cell? ⟨ga, 1, none⟩ = some (.slice A1 l1.length c1)) (hk : W.cell? ⟨gk, 0, none⟩ = some (.int .i64 kind)) (hr : Kd.C k48 W A1 l1.length l1) (hc : l1.length ≤ c1) :
    Calls Try.prog 44 (#[.int .u64 b] ++ #[.pointer (some ⟨ga, 0, none⟩), .pointer (some ⟨gk, 0, none⟩)]) W fun e w' => e = .returned (.bool r) ∧ Below W.heap.size W w' := by
  have hu := Try.underlying28
  have HF := zM hf
  have HR := zM hr
  have HC := zM hc
  clear hf hr hc
  show Calls Try.prog 44 #[.int .u64 b, .pointer (some ⟨ga, 0, none⟩), .pointer (some ⟨gk, 0, none⟩)] W _
  go_enter Try.func44, Try.ntmps44
  go_wp2_with (go_at_call 45; refine (impl_Graph_hasKind.calls k a0 A1 c1 l1 kind b r _ (zC HR.out) HC.out HF.out).mono ?_; rintro e w' ⟨rfl, hb⟩; have HB := zM hb; clear hb)
  go_ret
  exact ⟨by first | rfl | (simp; done), HB.out⟩
def kindP (k : Nat) (a0 : Int) (l1 : List S48) (kind b : Int) : Bool := (impl_Graph_hasKind.f k a0 l1 kind b).getD false
def kindOk (k : Nat) (a0 : Int) (l1 : List S48) (kind : Int) : Prop := (0 ≤ a0 ∧ a0 ≤ 8) ∧ ∀ b : Fin 256, b.val < 2 ^ a0.toNat → (impl_Graph_hasKind.f k a0 l1 kind (b.val : Int)).isSome = true
instance (k : Nat) (a0 : Int) (l1 : List S48) (kind : Int) : Decidable (kindOk k a0 l1 kind) := by unfold kindOk; infer_instance
def impl_Graph_ofKind.f (k : Nat) (a0_0 : Int) (l0_1 : List S48) (a1 : Int) : Option (List (List Int)) :=
  if kindOk k a0_0 l0_1 a1 then some (sortSS (sortLL (codesL (kindP k a0_0 l0_1 a1) (2 ^ a0_0.toNat)))) else none
set_option maxRecDepth 100000 in
set_option maxHeartbeats 2000000 in
theorem impl_Graph_ofKind.calls (k : Nat) (a0_0 : Int) (A0_1 : Option Addr) (c0_1 : Nat) (l0_1 : List (S48)) (a1 : Int) (r : List (List Int)) (w : World) (hr0_1 : Kd.C k48 w A0_1 l0_1.length l0_1) (hc0_1 : l0_1.length ≤ c0_1) (h : impl_Graph_ofKind.f k a0_0 l0_1 a1 = some r) :
    Calls Try.prog 29 #[.agg #[.int .i64 a0_0, .slice A0_1 l0_1.length c0_1], .int .i64 a1] w fun e w' => ∃ v0_ : Value, e = .returned (v0_) ∧ Kd.S (Kd.slice 3 (Kd.int .i64)) 37 w' w.heap.size (fun _ => True) v0_ r ∧ Below w.heap.size w w' := by
  unfold impl_Graph_ofKind.f at h
  by_cases c : kindOk k a0_0 l0_1 a1
  case neg => rw [if_neg c] at h; cases h
  rw [if_pos c] at h
  have HE := zM (Option.some.inj h)
  have HR := zM hr0_1
  have HC := zM hc0_1
  have HO := zM c
  have hpow : 2 ^ a0_0.toNat ≤ 256 := Nat.pow_le_pow_right (n := 2) (by decide) (show a0_0.toNat ≤ 8 by have := c.1; omega)
  have hl : (sortLL (codesL (kindP k a0_0 l0_1 a1) (2 ^ a0_0.toNat))).length ≤ 256 := by
    rw [sortLL_len]
    exact Nat.le_trans (codesL_len _ _) hpow
  have HL := zM hl
  have HPW := zM hpow
  clear h hr0_1 hc0_1 c hpow hl
  have HP := fun (W : World) (ga gk : Nat) (hg0 : W.cell? ⟨ga, 0, none⟩ = some (.int .i64 a0_0)) (hg1 : W.cell? ⟨ga, 1, none⟩ = some (.slice A0_1 l0_1.length c0_1)) (hk : W.cell? ⟨gk, 0, none⟩ = some (.int .i64 a1)) (hr : Kd.C k48 W A0_1 l0_1.length l0_1) =>
    zM (show PredN 44 #[.pointer (some ⟨ga, 0, none⟩), .pointer (some ⟨gk, 0, none⟩)] (kindP k a0_0 l0_1 a1) (2 ^ a0_0.toNat) W from fun W' b h0 h1 hb => by
      have hs := HO.out.2 ⟨b.toNat, by have := HPW.out; omega⟩ (by show b.toNat < _; omega)
      rw [show ((b.toNat : Nat) : Int) = b by omega] at hs
      obtain ⟨v, hv⟩ := Option.isSome_iff_exists.1 hs
      have := ofKind1_any ga gk a0_0 A0_1 c0_1 l0_1 a1 b k v hv W' (pw_cell_below hb hg0) (pw_cell_below hb hg1) (pw_cell_below hb hk) (Kd.C_below hr hb) HC.out
      unfold kindP
      rw [hv]
      exact this)
  have HB1 := zM (below_alloc (below_alloc (Below.refl w.heap.size w) (.cells #[.int .i64 a0_0, .slice A0_1 l0_1.length c0_1] 28)) (.cells #[.int .i64 a1] 3))
  go_enter Try.func29, Try.ntmps29
  go_wp2_with (first
    | (go_at_call 43; refine (sets_calls _ _ (enters_of Try.func44 (by kernel_rfl) rfl) _ a0_0 HO.out.1.1 HO.out.1.2 A0_1 c0_1 l0_1 _ (Kd.C_below HR.out HB1.out) HC.out (HP _ _ _ (by go_simp) (by go_simp) (by go_simp) (Kd.C_below HR.out HB1.out)).out).mono ?_; rintro e w3 ⟨v3, rfl, ho, hb⟩; have HS := zM (Kd.S_lower ho (below_size HB1.out)); have HB := zM (below_step HB1.out hb); clear ho hb)
    | (go_at_call 46; refine (sortSizes.calls (fun _ => True) _ _ w _ HB.out HS.out (by have := HL.out; omega)).mono ?_; rintro e w4 ⟨rfl, ho, hb, hk⟩; replace HS := zM (Kd.S_mono (ok' := fun _ => True) ho (fun _ _ => trivial)); replace HB := zM hb; clear ho hb hk))
  go_ret
  exact ⟨_, rfl, by rw [← HE.out]; exact HS.out, HB.out⟩
end Go.Proofs.Ytfaeopmofgnbdaa.P
