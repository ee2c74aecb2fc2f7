-- Written by a program of this session (the kit's print, turned: wip/print/patch.py) out of the translation. Not trusted: Lean checks it.
import Derived.Test.YtnlmijnbfdhdkaaGreedyTightG3
import Derived.Test.YtnlmijnbfdhdkaaGreedyTightG8
import Derived.Test.YtnlmijnbfdhdkaaGreedyTightG9
namespace Go.Proofs.Ytnlmijnbfdhdkaa.P
open Go.RowKit Go.Proofs.YtnlmijnbfdhdkaaW.PrintWords Go.Proofs.YtnlmijnbfdhdkaaW.PrintLast Go.Proofs.YtnlmijnbfdhdkaaW.PrintMore
attribute [local go_sem] max2_int min2_int max_two min_two max_three min_three max_four min_four   -- for this text's walks alone
set_option linter.unusedVariables false
set_option linter.unusedSimpArgs false

/-! ### impl_Graph_has: function 114 -/
def impl_Graph_has.f (k : Nat) (a0_0 : Int) (l0_1 : List (S88)) (a1 : Int) (a2 : Int) : Option (Bool) := (impl_pair.f a1 a2).bind fun bt238 => ((slices_Contains_2_int_2_int.f k l0_1 bt238.1 bt238.2).bind fun t240 => (some t240))
set_option maxHeartbeats 8000000 in
set_option maxRecDepth 100000 in
theorem impl_Graph_has.calls (k : Nat) (a0_0 : Int) (A0_1 : Option Addr) (c0_1 : Nat) (l0_1 : List (S88)) (a1 : Int) (a2 : Int) (r : Bool) (w : World) (hr0_1 : Kd.C k88 w A0_1 l0_1.length l0_1) (hc0_1 : l0_1.length ≤ c0_1) (h : impl_Graph_has.f k a0_0 l0_1 a1 a2 = some r) :
 Calls Try.prog 114 #[.agg #[.int .i64 a0_0, .slice A0_1 l0_1.length c0_1], .int .i64 a1, .int .i64 a2] w fun e w' => e = .returned (.bool r) ∧ Below w.heap.size w w' := by
 have hu29 := Try.underlying29
 have HR0_1 := Aside0.mk hr0_1
 have HC0_1 := Aside0.mk hc0_1
 clear hr0_1 hc0_1
 have HB := zM (Below.refl w.heap.size w)
 have H : ((impl_pair.f a1 a2).bind fun bt238 => ((slices_Contains_2_int_2_int.f k l0_1 bt238.1 bt238.2).bind fun t240 => (some t240))) = some r := h
 clear h
 replace H := Option.bind_eq_some_iff.mp H
 obtain ⟨⟨t238, t239⟩, A40, H⟩ := H
 replace H : ((slices_Contains_2_int_2_int.f k l0_1 t238 t239).bind fun t240 => (some t240)) = some r := H
 have A4 := Aside0.mk A40
 clear A40
 replace H := Option.bind_eq_some_iff.mp H
 obtain ⟨t240, A50, H⟩ := H
 have A5 := Aside0.mk A50
 clear A50
 obtain rfl := Option.some.inj H
 go_enter Try.func114, Try.ntmps114
 try go_wp2_with (first | ((with_reducible refine gate_dst (N := 3) rfl ?_); refine zb (w := w) 3 #[.int .i64 a0_0, .slice A0_1 l0_1.length c0_1] 29 zB ?_; clear HB; intro gb237 w6 HB BK237 GW237; have GE237 := GW237))
 replace BK237 := zM (blk_drew BK237.out)
 replace HB := zM (below_drew1 HB.out)
 refine zs (n := 7) (fun w' => w'.cell? ⟨gb237, 0, none⟩ = some (.int .i64 a0_0) ∧ w'.cell? ⟨gb237, 1, none⟩ = some (.slice A0_1 l0_1.length c0_1)) ⟨(blk_cell BK237.out 0).trans rfl, (blk_cell BK237.out 1).trans rfl⟩ (fun hHeld => ?_)
 generalize w6.drew = w7 at BK237 HB hHeld ⊢
 refine zq 0 7 ?_
 refine zq 2 9 ?_
 refine zq 3 10 ?_
 refine zl 1 8 hHeld ?_ (hy := by rintro w' ⟨s0, s1⟩; go_simp; with_reducible rfl)
 refine zh 4 11 Try.func143 #[.int .i64 a1, .int .i64 a2] (fun K hK => ?_)
 with_reducible refine (impl_pair.calls a1 a2 t238 t239 _ A4.out).mono ?_
 rintro e w8 ⟨rfl, hb⟩
 refine ⟨_, rfl, ?_⟩
 replace BK237 := zM (blk_below (g := gb237) (o := .cells #[.int .i64 a0_0, .slice A0_1 l0_1.length c0_1] 29 (0, 0)) (zK BK237.out) hb)
 replace HB := zM (below_step zB hb)
 (try clear hb)
 (try clear hb2)
 (try clear hk)
 (try clear hi)
 refine hK.out _ _ ⟨(blk_cell BK237.out 0).trans rfl, (blk_cell BK237.out 1).trans rfl⟩ (fun hHeld => ?_)
 clear hK K
 refine zn 11 ?_
 refine zh 5 12 Try.func142 #[.slice A0_1 l0_1.length c0_1, .agg #[.int .i64 t238, .int .i64 t239]] (fun K hK => ?_)
 with_reducible refine (slices_Contains_2_int_2_int.calls k _ _ l0_1 t238 t239 t240 _ ?side1 ?side2 A5.out).mono ?_
 (case side1 => exact zC (Kd.C_below HR0_1.out HB.out))
 (case side2 => exact HC0_1.out)
 rintro e w9 ⟨rfl, hb⟩
 refine ⟨_, rfl, ?_⟩
 replace BK237 := zM (blk_below (g := gb237) (o := .cells #[.int .i64 a0_0, .slice A0_1 l0_1.length c0_1] 29 (0, 0)) (zK BK237.out) hb)
 replace HB := zM (below_step zB hb)
 (try clear hb)
 (try clear hb2)
 (try clear hk)
 (try clear hi)
 refine hK.out _ _ ⟨(blk_cell BK237.out 0).trans rfl, (blk_cell BK237.out 1).trans rfl⟩ (fun hHeld => ?_)
 clear hK K
 refine zn 12 ?_
 refine zq 6 6 ?_
 refine zx ?_
 try go_wp2
 go_ret
 exact ⟨by first | rfl | (simp [errW_none, errW_some] <;> rfl) | (simp [*, errW_none, errW_some] <;> rfl), zB⟩

/-! ### impl_Graph_neighbors: function 115 -/
def impl_Graph_neighbors.l0 : Nat → Int → List Int → Int → Int → Int → List (S88) → Option (List Int)
 | 0, _, _, _, _, _, _ => none
 | k + 1, x1, x5, x9, x10, x242000, x242001 => if x10 < x9 then (if x10 = x1 then (impl_Graph_neighbors.l0 k x1 x5 x9 (wrap64 (x10 + 1)) x242000 x242001) else ((impl_Graph_has.f k x242000 x242001 x1 x10).bind fun t245 => (if t245 = true then (if x5.length < 17592186044416 then (impl_Graph_neighbors.l0 k x1 (x5 ++ [x10]) x9 (wrap64 (x10 + 1)) x242000 x242001) else (none)) else (impl_Graph_neighbors.l0 k x1 x5 x9 (wrap64 (x10 + 1)) x242000 x242001)))) else (some x5)
def impl_Graph_neighbors.f (k : Nat) (a0_0 : Int) (l0_1 : List (S88)) (a1 : Int) : Option (List Int) := impl_Graph_neighbors.l0 k a1 (([] : List Int)) a0_0 0 a0_0 l0_1
set_option maxHeartbeats 8000000 in
set_option maxRecDepth 100000 in
theorem impl_Graph_neighbors.calls (k : Nat) (a0_0 : Int) (A0_1 : Option Addr) (c0_1 : Nat) (l0_1 : List (S88)) (a1 : Int) (r : List Int) (w : World) (hr0_1 : Kd.C k88 w A0_1 l0_1.length l0_1) (hc0_1 : l0_1.length ≤ c0_1) (h : impl_Graph_neighbors.f k a0_0 l0_1 a1 = some r) :
 Calls Try.prog 115 #[.agg #[.int .i64 a0_0, .slice A0_1 l0_1.length c0_1], .int .i64 a1] w fun e w' => ∃ v0_ : Value, e = .returned (v0_) ∧ Kd.R (Kd.int .i64) 3 w' w.heap.size (fun _ => True) v0_ r ∧ Below w.heap.size w w' := by
 have hu29 := Try.underlying29
 have HR0_1 := Aside0.mk hr0_1
 have HC0_1 := Aside0.mk hc0_1
 clear hr0_1 hc0_1
 have HB := zM (Below.refl w.heap.size w)
 have H : (impl_Graph_neighbors.l0 k a1 (([] : List Int)) a0_0 0 a0_0 l0_1) = some r := h
 clear h
 obtain ⟨y242, hy242⟩ : ∃ y_ : List Int, y_ = (([] : List Int)) := ⟨_, rfl⟩
 replace H : (impl_Graph_neighbors.l0 k a1 y242 a0_0 0 a0_0 l0_1) = some r := by first | (rw [hy242]; with_reducible exact H) | (have H2_ := (Option.bind_some _ _).symm.trans H; rw [hy242]; with_reducible exact H2_) | (have H2_ := (Option.bind_some _ _).symm.trans H; with_reducible exact H2_) | with_reducible exact H | (rw [hy242]; exact H) | exact H
 have Ny242 := Aside0.mk hy242
 clear hy242
 have H' := Aside0.mk H
 clear H
 go_enter Try.func115, Try.ntmps115
 go_wp2_with (first | ((with_reducible refine gate_dst (N := 2) rfl ?_); refine zb (w := w) 2 #[.int .i64 a0_0, .slice A0_1 l0_1.length c0_1] 29 zB ?_; clear HB; intro gb241 w3 HB BK241 GW241; have GE241 := GW241) | ((with_reducible refine gate_dst (N := 7) rfl ?_); refine Kd.R_lit (Kd.int .i64) _ 3 ?hg (N := 7) ?hd (xs := ([] : List Int)) (inner := []) (ok := fun _ => True) (okp := fun _ => True) ?hr ?hp (fun _ hk => hk) trivial (Below.refl _ _) (Nat.le_refl _) (by simp) ?_; (case hd => rfl); (case hg => rfl); (case hr => first | (go_simp; done) | (go_simp; rfl)); (case hp => exact (Reps.none _ _)); intro v243 w4 ho5 hb hg_ hnew_; clear hg_ hnew_; (first | rw [← Ny242.out] at ho5 | (simp only [Int.reduceToNat] at ho5; rw [← Ny242.out] at ho5)); have HO244 := zM (Kd.R_lower ho5 (below_size zB)); replace BK241 := zM (blk_below (g := gb241) (o := .cells #[.int .i64 a0_0, .slice A0_1 l0_1.length c0_1] 29 (0, 0)) (zK BK241.out) hb); replace HB := zM (below_step zB hb); clear hb ho5; have hcz6_0 := zy BK241 0; have hcz6_1 := zy BK241 1; have hfz6_0 := blk_frozen BK241.out 0; have hfz6_1 := blk_frozen BK241.out 1))
 go_loopg [5, 10] k (fun kq v5 v10 w' => ∃ (x5_1 : List Int) (x10_1 : Int), v10 = .int .i64 x10_1 ∧ Aside0 (impl_Graph_neighbors.l0 kq a1 x5_1 a0_0 x10_1 a0_0 l0_1 = some r) ∧ Aside0 (kq ≤ k) ∧ Aside0 (Kd.R (Kd.int .i64) 3 w' w.heap.size (fun _ => True) v5 x5_1) ∧ Aside0 (w'.heap[gb241]? = some (.cells #[.int .i64 a0_0, (.slice A0_1 l0_1.length c0_1)] 29 (0, 0))) ∧ Aside0 (Below w.heap.size w w'))
 case atStart => exact ⟨(y242), (0), (by first | rfl | (simp; done) | (simp [*]; done)), H', ⟨Nat.le_refl _⟩, ⟨zR HO244.out⟩, ⟨zK BK241.out⟩, ⟨zB⟩⟩
 case round =>
  clear H'
  try clear c1
  try clear p2
  try clear hcz6_0
  try clear hcz6_1
  try clear hfz6_0
  try clear hfz6_1
  obtain ⟨x5_1, x10_1, rfl, HA, HK1, HO_5, BK241, HB⟩ := hrel
  cases gk with
  | zero => exact absurd HA.out (by simp [impl_Graph_neighbors.l0])
  | succ k1 =>
   have H := HA.out
   clear HA
   simp only [impl_Graph_neighbors.l0] at H
   by_cases c7 : x10_1 < a0_0
   · rw [if_pos c7] at H
     have c7b0 := decide_eq_true c7
     clear c7
     by_cases c8 : x10_1 = a1
     · rw [if_pos c8] at H
       have c8b0 : (x10_1 == a1) = true := beq_iff_eq.mpr c8
       have c8b1 : (x10_1 != a1) = false := bne_eq_false_iff_eq.mpr c8
       clear c8
       have H' := Aside0.mk H
       clear H
       go_wp2
       go_roundg k1
       case measure => have := HK1.out; omega
       case rel => exact ⟨(x5_1), (wrap64 (x10_1 + 1)), (by first | rfl | (simp; done) | (simp [*]; done)), H', ⟨by have := HK1.out; omega⟩, ⟨zR HO_5.out⟩, ⟨zK BK241.out⟩, ⟨zB⟩⟩
     · rw [if_neg c8] at H
       have c8b0 : (x10_1 == a1) = false := beq_eq_false_iff_ne.mpr c8
       have c8b1 : (x10_1 != a1) = true := bne_iff_ne.mpr c8
       replace H := Option.bind_eq_some_iff.mp H
       obtain ⟨t245, A90, H⟩ := H
       have A9 := Aside0.mk A90
       clear A90
       by_cases c10 : t245 = true
       · subst c10
         rw [if_pos rfl] at H
         by_cases c11 : x5_1.length < 17592186044416
         · rw [if_pos c11] at H
           have LMc11 := Aside0.mk c11
           clear c11
           obtain ⟨y246, hy246⟩ : ∃ y_ : List Int, y_ = (x5_1 ++ [x10_1]) := ⟨_, rfl⟩
           replace H : (impl_Graph_neighbors.l0 k1 a1 y246 a0_0 (wrap64 (x10_1 + 1)) a0_0 l0_1) = some r := by first | (rw [hy246]; with_reducible exact H) | (have H2_ := (Option.bind_some _ _).symm.trans H; rw [hy246]; with_reducible exact H2_) | (have H2_ := (Option.bind_some _ _).symm.trans H; with_reducible exact H2_) | with_reducible exact H | (rw [hy246]; exact H) | exact H
           have Ny246 := Aside0.mk hy246
           clear hy246
           have H' := Aside0.mk H
           clear H
           have hcz12_0 := zy BK241 0
           have hcz12_1 := zy BK241 1
           have hfz12_0 := blk_frozen BK241.out 0
           have hfz12_1 := blk_frozen BK241.out 1
           go_wp2_with (first | (go_at_call 114; (with_reducible refine (impl_Graph_has.calls k1 a0_0 _ _ l0_1 a1 x10_1 true _ ?side1 ?side2 A9.out).mono ?_); (case side1 => exact zC (Kd.C_below HR0_1.out HB.out)); (case side2 => exact HC0_1.out); rintro e w13 ⟨rfl, hb⟩; replace HO_5 := zM (Kd.R_below (zR HO_5.out) hb); replace BK241 := zM (blk_below (g := gb241) (o := .cells #[.int .i64 a0_0, .slice A0_1 l0_1.length c0_1] 29 (0, 0)) (zK BK241.out) hb); replace HB := zM (below_step zB hb); (try clear hb); (try clear hb2); (try clear hk); (try clear hi)) | ((with_reducible refine gate_builtin (b := .append) (xs := #[.tmp 22, .tmp 24]) rfl ?_); at_builtin; refine Kd.R_append (Kd.int .i64) (w0 := w) w.heap.size rfl (.tmp 22) (.tmp 24) 25 3 (.int .i64 0) 8 rfl Try.underlying25 info3 rfl (by decide) (by omega) u5 x5_1 x10_1 [.int .i64 x10_1] (fun _ => True) (fun _ => False) rfl rfl ?aP (fun _ hk => hk.elim) ?aF ?aO ?aB ?aS ?aL ?_; (case aP => exact rfl); (case aB => exact zB); (case aF => exact (fun _ _ => trivial)); (case aO => exact (zR HO_5.out)); (case aS => exact (below_size zB)); (case aL => have := LMc11.out; omega); intro v247 w14 ho hb hg hat; rw [← Ny246.out] at ho; replace BK241 := zM (blk_grown (g := gb241) (o := .cells #[.int .i64 a0_0, .slice A0_1 l0_1.length c0_1] 29 (0, 0)) (zK BK241.out) hg (Kd.R_ne HO_5.out BK241.out (by decide))); replace HB := zM (hb); have HO248 := zM (ho); clear HO_5; clear ho hb hg hat))
           go_roundg k1
           case measure => have := HK1.out; omega
           case rel => exact ⟨(y246), (wrap64 (x10_1 + 1)), (by first | rfl | (simp; done) | (simp [*]; done)), H', ⟨by have := HK1.out; omega⟩, ⟨zR HO248.out⟩, ⟨zK BK241.out⟩, ⟨zB⟩⟩
         · rw [if_neg c11] at H
           exact absurd H (by simp)
       · replace c10 := Bool.eq_false_iff.mpr c10
         subst c10
         have H1 : (impl_Graph_neighbors.l0 k1 a1 x5_1 a0_0 (wrap64 (x10_1 + 1)) a0_0 l0_1) = some r := by rw [if_neg (show ¬ (false = true) by decide)] at H; exact H
         clear H
         have H := H1
         clear H1
         have H' := Aside0.mk H
         clear H
         have hcz15_0 := zy BK241 0
         have hcz15_1 := zy BK241 1
         have hfz15_0 := blk_frozen BK241.out 0
         have hfz15_1 := blk_frozen BK241.out 1
         go_wp2_with (first | (go_at_call 114; (with_reducible refine (impl_Graph_has.calls k1 a0_0 _ _ l0_1 a1 x10_1 false _ ?side1 ?side2 A9.out).mono ?_); (case side1 => exact zC (Kd.C_below HR0_1.out HB.out)); (case side2 => exact HC0_1.out); rintro e w16 ⟨rfl, hb⟩; replace HO_5 := zM (Kd.R_below (zR HO_5.out) hb); replace BK241 := zM (blk_below (g := gb241) (o := .cells #[.int .i64 a0_0, .slice A0_1 l0_1.length c0_1] 29 (0, 0)) (zK BK241.out) hb); replace HB := zM (below_step zB hb); (try clear hb); (try clear hb2); (try clear hk); (try clear hi)))
         go_roundg k1
         case measure => have := HK1.out; omega
         case rel => exact ⟨(x5_1), (wrap64 (x10_1 + 1)), (by first | rfl | (simp; done) | (simp [*]; done)), H', ⟨by have := HK1.out; omega⟩, ⟨zR HO_5.out⟩, ⟨zK BK241.out⟩, ⟨zB⟩⟩
   · rw [if_neg c7] at H
     have c7b0 : decide (x10_1 < a0_0) = false := decide_eq_false c7
     clear c7
     obtain rfl := Option.some.inj H
     go_wp2
     go_ret
     exact ⟨_, by first | rfl | (simp [errW_none, errW_some] <;> rfl) | (simp [*, errW_none, errW_some] <;> rfl), by (with_reducible repeat (first | apply Kd.R_alloc | apply Kd.R_drewN | apply Kd.R_drew)); exact HO_5.out, zB⟩

/-! ### impl_Graph_hasKind: function 65 -/
mutual
def impl_Graph_hasKind.l0 : Nat → List Int → List Int → Int → Int → Int → List (S88) → Option (Bool)
 | 0, _, _, _, _, _, _ => none
 | k + 1, x7, x26, x27, x28, x250000, x250001 => if x28 < x27 then (if 0 ≤ x28 then (if x28 < (x26.length : Int) then (if x28 ≤ (x7.length : Int) then ((some (x7.take (x28 : Int).toNat : List Int)).bind fun y256 => (impl_Graph_hasKind.l1 k x7 (rd x26 x28) x26 x27 x28 y256 (y256.length : Int) 0 x250000 x250001)) else (none)) else (none)) else (none)) else (some true)
def impl_Graph_hasKind.l1 : Nat → List Int → Int → List Int → Int → Int → List Int → Int → Int → Int → List (S88) → Option (Bool)
 | 0, _, _, _, _, _, _, _, _, _, _ => none
 | k + 1, x7, x9, x26, x27, x28, x35, x36, x37, x250000, x250001 => if x37 < x36 then (if 0 ≤ x37 then (if x37 < (x35.length : Int) then ((impl_Graph_has.f k x250000 x250001 x9 (rd x35 x37)).bind fun t261 => (if t261 = true then (impl_Graph_hasKind.l1 k x7 x9 x26 x27 x28 x35 x36 (wrap64 (x37 + 1)) x250000 x250001) else (some false))) else (none)) else (none)) else (impl_Graph_hasKind.l0 k x7 x26 x27 (wrap64 (x28 + 1)) x250000 x250001)
def impl_Graph_hasKind.l2 : Nat → Int → Int → Int → Int → List (S88) → Option (Bool)
 | 0, _, _, _, _, _ => none
 | k + 1, x2, x49, x50, x250000, x250001 => if x50 < x49 then ((impl_bag_has.f x2 x50).bind fun t262 => (if t262 = true then (impl_Graph_hasKind.l2 k x2 x49 (wrap64 (x50 + 1)) x250000 x250001) else ((impl_Graph_neighbors.f k x250000 x250001 x50).bind fun t263 => ((impl_bagOf.f k t263).bind fun t266 => (if (Go.bits .and .u64 t266 x2) = 0 then (some false) else (impl_Graph_hasKind.l2 k x2 x49 (wrap64 (x50 + 1)) x250000 x250001)))))) else (some true)
end
def impl_Graph_hasKind.f (k : Nat) (a0_0 : Int) (l0_1 : List (S88)) (a1 : Int) (a2 : Int) : Option (Bool) := if a1 = 1 then ((impl_Graph_all.f a0_0 l0_1).bind fun t250 => ((impl_Graph_isFree.f a0_0 l0_1 (Go.bits .andNot .u64 t250 a2)).bind fun t251 => (some t251))) else (if a1 = 2 then ((impl_bag_list.f k a2).bind fun t252 => (impl_Graph_hasKind.l0 k t252 t252 (t252.length : Int) 0 a0_0 l0_1)) else (impl_Graph_hasKind.l2 k a2 a0_0 0 a0_0 l0_1))
set_option maxHeartbeats 8000000 in
set_option maxRecDepth 100000 in
theorem impl_Graph_hasKind.calls (k : Nat) (a0_0 : Int) (A0_1 : Option Addr) (c0_1 : Nat) (l0_1 : List (S88)) (a1 : Int) (a2 : Int) (r : Bool) (w : World) (hr0_1 : Kd.C k88 w A0_1 l0_1.length l0_1) (hc0_1 : l0_1.length ≤ c0_1) (h : impl_Graph_hasKind.f k a0_0 l0_1 a1 a2 = some r) :
 Calls Try.prog 65 #[.agg #[.int .i64 a0_0, .slice A0_1 l0_1.length c0_1], .int .i64 a1, .int .u64 a2] w fun e w' => e = .returned (.bool r) ∧ Below w.heap.size w w' := by
 have hu29 := Try.underlying29
 have HR0_1 := Aside0.mk hr0_1
 have HC0_1 := Aside0.mk hc0_1
 clear hr0_1 hc0_1
 have HB := zM (Below.refl w.heap.size w)
 have H : (if a1 = 1 then ((impl_Graph_all.f a0_0 l0_1).bind fun t250 => ((impl_Graph_isFree.f a0_0 l0_1 (Go.bits .andNot .u64 t250 a2)).bind fun t251 => (some t251))) else (if a1 = 2 then ((impl_bag_list.f k a2).bind fun t252 => (impl_Graph_hasKind.l0 k t252 t252 (t252.length : Int) 0 a0_0 l0_1)) else (impl_Graph_hasKind.l2 k a2 a0_0 0 a0_0 l0_1))) = some r := h
 clear h
 by_cases c4 : a1 = 1
 · rw [if_pos c4] at H
   have c4b0 : (a1 == 1) = true := beq_iff_eq.mpr c4
   have c4b1 : (a1 != 1) = false := bne_eq_false_iff_eq.mpr c4
   clear c4
   replace H := Option.bind_eq_some_iff.mp H
   obtain ⟨t250, A50, H⟩ := H
   have A5 := Aside0.mk A50
   clear A50
   replace H := Option.bind_eq_some_iff.mp H
   obtain ⟨t251, A60, H⟩ := H
   have A6 := Aside0.mk A60
   clear A60
   obtain rfl := Option.some.inj H
   go_enter Try.func65, Try.ntmps65
   try go_wp2_with (first | ((with_reducible refine gate_dst (N := 3) rfl ?_); refine zb (w := w) 3 #[.int .i64 a0_0, .slice A0_1 l0_1.length c0_1] 29 zB ?_; clear HB; intro gb249 w7 HB BK249 GW249; have GE249 := GW249))
   replace BK249 := zM (blk_drew BK249.out)
   replace HB := zM (below_drew1 HB.out)
   refine zs (n := 7) (fun w' => w'.cell? ⟨gb249, 0, none⟩ = some (.int .i64 a0_0) ∧ w'.cell? ⟨gb249, 1, none⟩ = some (.slice A0_1 l0_1.length c0_1)) ⟨(blk_cell BK249.out 0).trans rfl, (blk_cell BK249.out 1).trans rfl⟩ (fun hHeld => ?_)
   generalize w7.drew = w8 at BK249 HB hHeld ⊢
   refine zq 3 19 ?_
   refine zl 0 16 hHeld ?_ (hy := by rintro w' ⟨s0, s1⟩; go_simp; with_reducible rfl)
   refine zl 1 17 hHeld ?_ (hy := by rintro w' ⟨s0, s1⟩; go_simp; with_reducible rfl)
   refine zh 2 18 Try.func113 #[.agg #[.int .i64 a0_0, .slice A0_1 l0_1.length c0_1]] (fun K hK => ?_)
   with_reducible refine (impl_Graph_all.calls a0_0 _ _ l0_1 t250 _ ?side1 ?side2 A5.out).mono ?_
   (case side1 => exact zC (Kd.C_below HR0_1.out HB.out))
   (case side2 => exact HC0_1.out)
   rintro e w9 ⟨rfl, hb⟩
   refine ⟨_, rfl, ?_⟩
   replace BK249 := zM (blk_below (g := gb249) (o := .cells #[.int .i64 a0_0, .slice A0_1 l0_1.length c0_1] 29 (0, 0)) (zK BK249.out) hb)
   replace HB := zM (below_step zB hb)
   (try clear hb)
   (try clear hb2)
   (try clear hk)
   (try clear hi)
   refine hK.out _ _ ⟨(blk_cell BK249.out 0).trans rfl, (blk_cell BK249.out 1).trans rfl⟩ (fun hHeld => ?_)
   clear hK K
   refine zn 18 ?_
   refine zq 4 20 ?_
   refine zh 5 21 Try.func112 #[.agg #[.int .i64 a0_0, .slice A0_1 l0_1.length c0_1], .int .u64 (Go.bits .andNot .u64 t250 a2)] (fun K hK => ?_)
   with_reducible refine (impl_Graph_isFree.calls a0_0 _ _ l0_1 (Go.bits .andNot .u64 t250 a2) t251 _ ?side1 ?side2 A6.out).mono ?_
   (case side1 => exact zC (Kd.C_below HR0_1.out HB.out))
   (case side2 => exact HC0_1.out)
   rintro e w10 ⟨rfl, hb⟩
   refine ⟨_, rfl, ?_⟩
   replace BK249 := zM (blk_below (g := gb249) (o := .cells #[.int .i64 a0_0, .slice A0_1 l0_1.length c0_1] 29 (0, 0)) (zK BK249.out) hb)
   replace HB := zM (below_step zB hb)
   (try clear hb)
   (try clear hb2)
   (try clear hk)
   (try clear hi)
   refine hK.out _ _ ⟨(blk_cell BK249.out 0).trans rfl, (blk_cell BK249.out 1).trans rfl⟩ (fun hHeld => ?_)
   clear hK K
   refine zn 21 ?_
   refine zq 6 6 ?_
   refine zx ?_
   try go_wp2
   go_ret
   exact ⟨by first | rfl | (simp [errW_none, errW_some] <;> rfl) | (simp [*, errW_none, errW_some] <;> rfl), zB⟩
 · rw [if_neg c4] at H
   have c4b0 : (a1 == 1) = false := beq_eq_false_iff_ne.mpr c4
   have c4b1 : (a1 != 1) = true := bne_iff_ne.mpr c4
   by_cases c11 : a1 = 2
   · rw [if_pos c11] at H
     have c11b0 : (a1 == 2) = true := beq_iff_eq.mpr c11
     have c11b1 : (a1 != 2) = false := bne_eq_false_iff_eq.mpr c11
     clear c11
     replace H := Option.bind_eq_some_iff.mp H
     obtain ⟨t252, A120, H⟩ := H
     have A12 := Aside0.mk A120
     clear A120
     have H' := Aside0.mk H
     clear H
     go_enter Try.func65, Try.ntmps65
     go_wp2_with (first | ((with_reducible refine gate_dst (N := 3) rfl ?_); refine zb (w := w) 3 #[.int .i64 a0_0, .slice A0_1 l0_1.length c0_1] 29 zB ?_; clear HB; intro gb249 w13 HB BK249 GW249; have GE249 := GW249) | ((with_reducible refine gate_callee (f := 70) rfl ?_); refine zc 25 Try.func70 #[.int .u64 a2] ?_; (with_reducible refine (impl_bag_list.calls k a2 t252 _ A12.out).mono ?_); rintro e w14 ⟨v253, rfl, ho0, hb⟩; refine ⟨_, rfl, ?_⟩; have HO254 := zM (Kd.R_lower ho0 (below_size zB)); replace BK249 := zM (blk_below (g := gb249) (o := .cells #[.int .i64 a0_0, .slice A0_1 l0_1.length c0_1] 29 (0, 0)) (zK BK249.out) hb); replace HB := zM (below_step zB hb); (try clear hb); (try clear hb2); (try clear hk); (try clear hi); (try clear ho0); obtain ⟨Ao15, co15, eo15⟩ := Kd.R_slice HO254.out; subst eo15))
     go_loopg [28] k (fun kq v28 w' => ∃ (x28_1 : Int), v28 = .int .i64 x28_1 ∧ Aside0 (impl_Graph_hasKind.l0 kq t252 t252 (t252.length : Int) x28_1 a0_0 l0_1 = some r) ∧ Aside0 (kq ≤ k) ∧ Aside0 (Kd.R (Kd.int .i64) 3 w' w.heap.size (fun _ => True) (.slice Ao15 t252.length co15) t252) ∧ Aside0 (Kd.R (Kd.int .i64) 3 w' w.heap.size (fun _ => True) (.slice Ao15 t252.length co15) t252) ∧ Aside0 (w'.heap[gb249]? = some (.cells #[.int .i64 a0_0, (.slice A0_1 l0_1.length c0_1)] 29 (0, 0))) ∧ Aside0 (Below w.heap.size w w'))
     case atStart => exact ⟨(0), (by first | rfl | (simp; done) | (simp [*]; done)), H', ⟨Nat.le_refl _⟩, ⟨zR HO254.out⟩, ⟨zR HO254.out⟩, ⟨zK BK249.out⟩, ⟨zB⟩⟩
     case round =>
      clear H'
      try clear c1
      try clear p2
      try clear c4
      try clear c4b0
      try clear c4b1
      try clear c6
      try clear c7
      try clear c11
      try clear c11b0
      try clear c11b1
      obtain ⟨x28_1, rfl, HA, HK1, HO_7, HO_26, BK249, HB⟩ := hrel
      cases gk with
      | zero => exact absurd HA.out (by simp [impl_Graph_hasKind.l0])
      | succ k1 =>
       have H := HA.out
       clear HA
       simp only [impl_Graph_hasKind.l0] at H
       by_cases c16 : x28_1 < (t252.length : Int)
       · rw [if_pos c16] at H
         have c16b0 := decide_eq_true c16
         clear c16
         by_cases c17 : 0 ≤ x28_1
         · rw [if_pos c17] at H
           have c17b0 := decide_eq_true c17
           clear c17
           by_cases c18 : x28_1 < (t252.length : Int)
           · rw [if_pos c18] at H
             have c18b0 := decide_eq_true c18
             clear c18
             have c19b0 := eq_true (of_decide_eq_true zA : 0 ≤ x28_1)
             by_cases c20 : x28_1 ≤ (t252.length : Int)
             · rw [if_pos c20] at H
               have c20b0 := eq_true c20
               have c20b1 : decide (x28_1 ≤ (t252.length : Int)) = true := decide_eq_true c20
               clear c20
               obtain ⟨y256, hy256⟩ : ∃ y_ : List Int, y_ = (t252.take (x28_1 : Int).toNat) := ⟨_, rfl⟩
               replace H : (impl_Graph_hasKind.l1 k1 t252 (rd t252 x28_1) t252 (t252.length : Int) x28_1 y256 (y256.length : Int) 0 a0_0 l0_1) = some r := by first | (rw [hy256]; with_reducible exact H) | (have H2_ := (Option.bind_some _ _).symm.trans H; rw [hy256]; with_reducible exact H2_) | (have H2_ := (Option.bind_some _ _).symm.trans H; with_reducible exact H2_) | with_reducible exact H | (rw [hy256]; exact H) | exact H
               have Ny256 := Aside0.mk hy256
               clear hy256
               have H' := Aside0.mk H
               clear H
               have p255 : 0 ≤ (x28_1 : Int) := of_decide_eq_true zA
               have q255 : x28_1 < (t252.length : Int) := of_decide_eq_true zA
               obtain ⟨ad255, e255, hx255_0⟩ := Kd.at_int (Kd.R_reads' HO_26.out).2.2 x28_1 p255 q255
               cases e255
               replace p255 := eq_true p255
               replace q255 := eq_true q255
               have q21 : (x28_1 : Int) ≤ ((t252.length : Int) : Int) := of_decide_eq_true zA
               obtain ⟨i021, hi021, _, hsz21, _⟩ := info_parts info3
               have hroom21 : t252.length ≤ co15 := (Kd.R_reads' HO_7.out).2.1
               have hC21 : Kd.C (Kd.int .i64) _ (some ad255) t252.length t252 := (Kd.R_reads' HO_7.out).2.2
               have hcut21 := cut_to (P := Try.prog) 25 3 .i64 Try.underlying25 hi021 (some ad255) t252.length co15 x28_1 (of_decide_eq_true zA) q21 hroom21
               have hr21 := Kd.C_take (m := (x28_1 : Int).toNat) hC21 (by omega)
               have hy21 : y256.length = (x28_1 : Int).toNat := (by rw [Ny256.out, List.length_take]; omega)
               rw [← Ny256.out] at hr21
               rw [← hy21] at hcut21
               have HR259 := Aside0.mk hr21
               have HC259 := zM (show y256.length ≤ co15 from by omega)
               clear hr21 hC21 hroom21 hi021 hsz21
               have KY21 := Aside0.mk hy21
               clear hy21
               have KL21 := zM (show (x28_1 : Int).toNat ≤ t252.length from by omega)
               replace q21 := eq_true q21
               go_wp2
               go_loopg [37] k1 (fun kq v37 w' => ∃ (x37_2 : Int), v37 = .int .i64 x37_2 ∧ Aside0 (impl_Graph_hasKind.l1 kq t252 (rd t252 x28_1) t252 (t252.length : Int) x28_1 y256 (y256.length : Int) x37_2 a0_0 l0_1 = some r) ∧ Aside0 (kq ≤ k1) ∧ Aside0 (Kd.R (Kd.int .i64) 3 w' w.heap.size (fun _ => True) (.slice (some ad255) t252.length co15) t252) ∧ Aside0 (Kd.R (Kd.int .i64) 3 w' w.heap.size (fun _ => True) (.slice (some ad255) t252.length co15) t252) ∧ Aside0 (w'.heap[gb249]? = some (.cells #[.int .i64 a0_0, (.slice A0_1 l0_1.length c0_1)] 29 (0, 0))) ∧ Aside0 (Kd.C (Kd.int .i64) w' (some ad255) y256.length y256) ∧ Aside0 (Below w.heap.size w w'))
               case atStart => exact ⟨(0), (by first | rfl | (simp; done) | (simp [*]; done)), H', ⟨Nat.le_refl _⟩, ⟨zR HO_7.out⟩, ⟨zR HO_26.out⟩, ⟨zK BK249.out⟩, ⟨zC HR259.out⟩, ⟨zB⟩⟩
               case round =>
                clear H'
                try clear c1
                try clear c2
                try clear p2
                try clear q2
                try clear hx2
                try clear c4
                try clear c4b0
                try clear c4b1
                try clear c6
                try clear c7
                try clear c11
                try clear c11b0
                try clear c11b1
                try clear c16
                try clear c16b0
                try clear c17
                try clear c17b0
                try clear c18
                try clear c18b0
                try clear c19
                try clear c19b0
                try clear c20
                try clear c20b0
                try clear c20b1
                try clear q21
                try clear hx255_0
                try clear p2
                try clear p255
                try clear q21
                try clear q255
                obtain ⟨x37_2, rfl, HA, HK2, HO_7, HO_26, BK249, HR259, HB⟩ := hrel
                cases gk with
                | zero => exact absurd HA.out (by simp [impl_Graph_hasKind.l1])
                | succ k2 =>
                 have H := HA.out
                 clear HA
                 simp only [impl_Graph_hasKind.l1] at H
                 by_cases c22 : x37_2 < (y256.length : Int)
                 · rw [if_pos c22] at H
                   have c22b0 := decide_eq_true c22
                   clear c22
                   by_cases c23 : 0 ≤ x37_2
                   · rw [if_pos c23] at H
                     have c23b0 := decide_eq_true c23
                     clear c23
                     by_cases c24 : x37_2 < (y256.length : Int)
                     · rw [if_pos c24] at H
                       have c24b0 := decide_eq_true c24
                       clear c24
                       replace H := Option.bind_eq_some_iff.mp H
                       obtain ⟨t261, A250, H⟩ := H
                       have A25 := Aside0.mk A250
                       clear A250
                       by_cases c26 : t261 = true
                       · subst c26
                         rw [if_pos rfl] at H
                         have H' := Aside0.mk H
                         clear H
                         have p260 : 0 ≤ (x37_2 : Int) := of_decide_eq_true zA
                         have q260 : x37_2 < (y256.length : Int) := of_decide_eq_true zA
                         obtain ⟨ad260, e260, hx260_0⟩ := Kd.at_int HR259.out x37_2 p260 q260
                         obtain rfl : ad255 = ad260 := (by injection e260)
                         (try replace hx260_0 := (HB.out.cell (World.block_lt_of_cell? w _ hx260_0)).trans hx260_0)
                         replace p260 := eq_true p260
                         replace q260 := eq_true q260
                         have hcz27_0 := zy BK249 0
                         have hcz27_1 := zy BK249 1
                         have hfz27_0 := blk_frozen BK249.out 0
                         have hfz27_1 := blk_frozen BK249.out 1
                         go_wp2_with (first | ((with_reducible refine gate_callee (f := 114) rfl ?_); refine zc 44 Try.func114 #[.agg #[.int .i64 a0_0, .slice A0_1 l0_1.length c0_1], .int .i64 (rd t252 x28_1), .int .i64 (rd y256 x37_2)] ?_; (with_reducible refine (impl_Graph_has.calls k2 a0_0 _ _ l0_1 (rd t252 x28_1) (rd y256 x37_2) true _ ?side1 ?side2 A25.out).mono ?_); (case side1 => exact zC (Kd.C_below HR0_1.out HB.out)); (case side2 => exact HC0_1.out); rintro e w28 ⟨rfl, hb⟩; refine ⟨_, rfl, ?_⟩; replace HO_7 := zM (Kd.R_below (zR HO_7.out) hb); replace HO_26 := zM (Kd.R_below (zR HO_26.out) hb); replace BK249 := zM (blk_below (g := gb249) (o := .cells #[.int .i64 a0_0, .slice A0_1 l0_1.length c0_1] 29 (0, 0)) (zK BK249.out) hb); replace HR259 := zM (Kd.C_below (by repeat (first | (with_reducible exact HR259.out) | (with_reducible refine Kd.C_alloc ?_ _) | (with_reducible refine Kd.C_drewN ?_ _) | (with_reducible refine Kd.C_drew ?_) | exact HR259.out)) hb); replace HB := zM (below_step zB hb); (try clear hb); (try clear hb2); (try clear hk); (try clear hi)))
                         go_roundg k2
                         case measure => have := HK1.out; have := HK2.out; omega
                         case rel => exact ⟨(wrap64 (x37_2 + 1)), (by first | rfl | (simp; done) | (simp [*]; done)), H', ⟨by have := HK1.out; have := HK2.out; omega⟩, ⟨zR HO_7.out⟩, ⟨zR HO_26.out⟩, ⟨zK BK249.out⟩, ⟨zC HR259.out⟩, ⟨zB⟩⟩
                       · replace c26 := Bool.eq_false_iff.mpr c26
                         subst c26
                         have H1 : (some false) = some r := by rw [if_neg (show ¬ (false = true) by decide)] at H; exact H
                         clear H
                         have H := H1
                         clear H1
                         obtain rfl := Option.some.inj H
                         have p260 : 0 ≤ (x37_2 : Int) := of_decide_eq_true zA
                         have q260 : x37_2 < (y256.length : Int) := of_decide_eq_true zA
                         obtain ⟨ad260, e260, hx260_0⟩ := Kd.at_int HR259.out x37_2 p260 q260
                         obtain rfl : ad255 = ad260 := (by injection e260)
                         (try replace hx260_0 := (HB.out.cell (World.block_lt_of_cell? w _ hx260_0)).trans hx260_0)
                         replace p260 := eq_true p260
                         replace q260 := eq_true q260
                         have hcz29_0 := zy BK249 0
                         have hcz29_1 := zy BK249 1
                         have hfz29_0 := blk_frozen BK249.out 0
                         have hfz29_1 := blk_frozen BK249.out 1
                         go_wp2_with (first | ((with_reducible refine gate_callee (f := 114) rfl ?_); refine zc 44 Try.func114 #[.agg #[.int .i64 a0_0, .slice A0_1 l0_1.length c0_1], .int .i64 (rd t252 x28_1), .int .i64 (rd y256 x37_2)] ?_; (with_reducible refine (impl_Graph_has.calls k2 a0_0 _ _ l0_1 (rd t252 x28_1) (rd y256 x37_2) false _ ?side1 ?side2 A25.out).mono ?_); (case side1 => exact zC (Kd.C_below HR0_1.out HB.out)); (case side2 => exact HC0_1.out); rintro e w30 ⟨rfl, hb⟩; refine ⟨_, rfl, ?_⟩; replace HO_7 := zM (Kd.R_below (zR HO_7.out) hb); replace HO_26 := zM (Kd.R_below (zR HO_26.out) hb); replace BK249 := zM (blk_below (g := gb249) (o := .cells #[.int .i64 a0_0, .slice A0_1 l0_1.length c0_1] 29 (0, 0)) (zK BK249.out) hb); replace HR259 := zM (Kd.C_below (by repeat (first | (with_reducible exact HR259.out) | (with_reducible refine Kd.C_alloc ?_ _) | (with_reducible refine Kd.C_drewN ?_ _) | (with_reducible refine Kd.C_drew ?_) | exact HR259.out)) hb); replace HB := zM (below_step zB hb); (try clear hb); (try clear hb2); (try clear hk); (try clear hi)))
                         go_ret
                         exact ⟨by first | rfl | (simp [errW_none, errW_some] <;> rfl) | (simp [*, errW_none, errW_some] <;> rfl), zB⟩
                     · rw [if_neg c24] at H
                       exact absurd H (by simp)
                   · rw [if_neg c23] at H
                     exact absurd H (by simp)
                 · rw [if_neg c22] at H
                   have c22b0 : decide (x37_2 < (y256.length : Int)) = false := decide_eq_false c22
                   clear c22
                   have H' := Aside0.mk H
                   clear H
                   go_wp2
                   go_roundg k2
                   case measure => have := HK1.out; have := HK2.out; omega
                   case rel => exact ⟨(wrap64 (x28_1 + 1)), (by first | rfl | (simp; done) | (simp [*]; done)), H', ⟨by have := HK1.out; have := HK2.out; omega⟩, ⟨zR HO_7.out⟩, ⟨zR HO_26.out⟩, ⟨zK BK249.out⟩, ⟨zB⟩⟩
             · rw [if_neg c20] at H
               exact absurd H (by simp)
           · rw [if_neg c18] at H
             exact absurd H (by simp)
         · rw [if_neg c17] at H
           exact absurd H (by simp)
       · rw [if_neg c16] at H
         have c16b0 : decide (x28_1 < (t252.length : Int)) = false := decide_eq_false c16
         clear c16
         obtain rfl := Option.some.inj H
         go_wp2
         go_ret
         exact ⟨by first | rfl | (simp [errW_none, errW_some] <;> rfl) | (simp [*, errW_none, errW_some] <;> rfl), zB⟩
   · rw [if_neg c11] at H
     have c11b0 : (a1 == 2) = false := beq_eq_false_iff_ne.mpr c11
     have c11b1 : (a1 != 2) = true := bne_iff_ne.mpr c11
     have H' := Aside0.mk H
     clear H
     go_enter Try.func65, Try.ntmps65
     go_wp2_with (first | ((with_reducible refine gate_dst (N := 3) rfl ?_); refine zb (w := w) 3 #[.int .i64 a0_0, .slice A0_1 l0_1.length c0_1] 29 zB ?_; clear HB; intro gb249 w31 HB BK249 GW249; have GE249 := GW249; have hcz32_0 := zy BK249 0; have hcz32_1 := zy BK249 1; have hfz32_0 := blk_frozen BK249.out 0; have hfz32_1 := blk_frozen BK249.out 1))
     go_loopg [50] k (fun kq v50 w' => ∃ (x50_1 : Int), v50 = .int .i64 x50_1 ∧ Aside0 (impl_Graph_hasKind.l2 kq a2 a0_0 x50_1 a0_0 l0_1 = some r) ∧ Aside0 (kq ≤ k) ∧ Aside0 (w'.heap[gb249]? = some (.cells #[.int .i64 a0_0, (.slice A0_1 l0_1.length c0_1)] 29 (0, 0))) ∧ Aside0 (Below w.heap.size w w'))
     case atStart => exact ⟨(0), (by first | rfl | (simp; done) | (simp [*]; done)), H', ⟨Nat.le_refl _⟩, ⟨zK BK249.out⟩, ⟨zB⟩⟩
     case round =>
      clear H'
      try clear c1
      try clear c2
      try clear p2
      try clear q2
      try clear hx2
      try clear c4
      try clear c4b0
      try clear c4b1
      try clear c6
      try clear p6
      try clear c7
      try clear c11
      try clear c11b0
      try clear c11b1
      try clear c16
      try clear c16b0
      try clear c17
      try clear c17b0
      try clear c18
      try clear c18b0
      try clear c19
      try clear c19b0
      try clear c20
      try clear c20b0
      try clear c20b1
      try clear q21
      try clear c22
      try clear c22b0
      try clear c23
      try clear c23b0
      try clear c24
      try clear c24b0
      try clear p25
      try clear q25
      try clear hx25
      try clear c26
      try clear p26
      try clear q26
      try clear hx26
      try clear hcz27_0
      try clear hcz27_1
      try clear hcz29_0
      try clear hcz29_1
      try clear hcz32_0
      try clear hcz32_1
      try clear hfz27_0
      try clear hfz27_1
      try clear hfz29_0
      try clear hfz29_1
      try clear hfz32_0
      try clear hfz32_1
      try clear hx255_0
      try clear hx260_0
      try clear p2
      try clear p255
      try clear p260
      try clear q2
      try clear q21
      try clear q255
      try clear q260
      obtain ⟨x50_1, rfl, HA, HK1, BK249, HB⟩ := hrel
      cases gk with
      | zero => exact absurd HA.out (by simp [impl_Graph_hasKind.l2])
      | succ k1 =>
       have H := HA.out
       clear HA
       simp only [impl_Graph_hasKind.l2] at H
       by_cases c33 : x50_1 < a0_0
       · rw [if_pos c33] at H
         have c33b0 := decide_eq_true c33
         clear c33
         replace H := Option.bind_eq_some_iff.mp H
         obtain ⟨t262, A340, H⟩ := H
         have A34 := Aside0.mk A340
         clear A340
         by_cases c35 : t262 = true
         · subst c35
           rw [if_pos rfl] at H
           have H' := Aside0.mk H
           clear H
           go_wp2_with (first | ((with_reducible refine gate_callee (f := 69) rfl ?_); refine zc 55 Try.func69 #[.int .u64 a2, .int .i64 x50_1] ?_; (with_reducible refine (impl_bag_has.calls a2 x50_1 true _ A34.out).mono ?_); rintro e w' ⟨rfl, ⟨nd, rfl⟩⟩; refine ⟨_, rfl, ?_⟩))
           go_roundg k1
           case measure => have := HK1.out; omega
           case rel => exact ⟨(wrap64 (x50_1 + 1)), (by first | rfl | (simp; done) | (simp [*]; done)), H', ⟨by have := HK1.out; omega⟩, ⟨zK BK249.out⟩, ⟨zB⟩⟩
         · replace c35 := Bool.eq_false_iff.mpr c35
           subst c35
           have H1 : ((impl_Graph_neighbors.f k1 a0_0 l0_1 x50_1).bind fun t263 => ((impl_bagOf.f k1 t263).bind fun t266 => (if (Go.bits .and .u64 t266 a2) = 0 then (some false) else (impl_Graph_hasKind.l2 k1 a2 a0_0 (wrap64 (x50_1 + 1)) a0_0 l0_1)))) = some r := by rw [if_neg (show ¬ (false = true) by decide)] at H; exact H
           clear H
           have H := H1
           clear H1
           replace H := Option.bind_eq_some_iff.mp H
           obtain ⟨t263, A360, H⟩ := H
           have A36 := Aside0.mk A360
           clear A360
           replace H := Option.bind_eq_some_iff.mp H
           obtain ⟨t266, A370, H⟩ := H
           have A37 := Aside0.mk A370
           clear A370
           by_cases c38 : (Go.bits .and .u64 t266 a2) = 0
           · rw [if_pos c38] at H
             have c38b0 : ((Go.bits .and .u64 t266 a2) == 0) = true := beq_iff_eq.mpr c38
             have c38b1 : ((Go.bits .and .u64 t266 a2) != 0) = false := bne_eq_false_iff_eq.mpr c38
             clear c38
             obtain rfl := Option.some.inj H
             go_wp2_with (first | ((with_reducible refine gate_callee (f := 69) rfl ?_); refine zc 55 Try.func69 #[.int .u64 a2, .int .i64 x50_1] ?_; (with_reducible refine (impl_bag_has.calls a2 x50_1 false _ A34.out).mono ?_); rintro e w' ⟨rfl, ⟨nd, rfl⟩⟩; refine ⟨_, rfl, ?_⟩; have hcz39_0 := zy BK249 0; have hcz39_1 := zy BK249 1; have hfz39_0 := blk_frozen BK249.out 0; have hfz39_1 := blk_frozen BK249.out 1) | (go_at_call 115; (with_reducible refine (impl_Graph_neighbors.calls k1 a0_0 _ _ l0_1 x50_1 t263 _ ?side1 ?side2 A36.out).mono ?_); (case side1 => exact zC (Kd.C_below HR0_1.out zB)); (case side2 => exact HC0_1.out); rintro e w40 ⟨v264, rfl, ho0, hb⟩; have HO265 := zM (Kd.R_lower ho0 (below_size zB)); replace BK249 := zM (blk_below (g := gb249) (o := .cells #[.int .i64 a0_0, .slice A0_1 l0_1.length c0_1] 29 (0, 0)) (zK BK249.out) hb); replace HB := zM (below_step zB hb); (try clear hb); (try clear hb2); (try clear hk); (try clear hi); (try clear ho0); obtain ⟨Ao41, co41, eo41⟩ := Kd.R_slice HO265.out; subst eo41) | (go_at_call 61; (with_reducible refine (impl_bagOf.calls k1 _ _ t263 t266 _ ?side1 ?side2 A37.out).mono ?_); (case side1 => exact zC (Kd.R_reads' HO265.out).2.2); (case side2 => exact (Kd.R_reads' HO265.out).2.1); rintro e w' ⟨rfl, ⟨nd, rfl⟩⟩))
             go_ret
             exact ⟨by first | rfl | (simp [errW_none, errW_some] <;> rfl) | (simp [*, errW_none, errW_some] <;> rfl), zB⟩
           · rw [if_neg c38] at H
             have c38b0 : ((Go.bits .and .u64 t266 a2) == 0) = false := beq_eq_false_iff_ne.mpr c38
             have c38b1 : ((Go.bits .and .u64 t266 a2) != 0) = true := bne_iff_ne.mpr c38
             have H' := Aside0.mk H
             clear H
             go_wp2_with (first | ((with_reducible refine gate_callee (f := 69) rfl ?_); refine zc 55 Try.func69 #[.int .u64 a2, .int .i64 x50_1] ?_; (with_reducible refine (impl_bag_has.calls a2 x50_1 false _ A34.out).mono ?_); rintro e w' ⟨rfl, ⟨nd, rfl⟩⟩; refine ⟨_, rfl, ?_⟩; have hcz42_0 := zy BK249 0; have hcz42_1 := zy BK249 1; have hfz42_0 := blk_frozen BK249.out 0; have hfz42_1 := blk_frozen BK249.out 1) | (go_at_call 115; (with_reducible refine (impl_Graph_neighbors.calls k1 a0_0 _ _ l0_1 x50_1 t263 _ ?side1 ?side2 A36.out).mono ?_); (case side1 => exact zC (Kd.C_below HR0_1.out zB)); (case side2 => exact HC0_1.out); rintro e w43 ⟨v264, rfl, ho0, hb⟩; have HO265 := zM (Kd.R_lower ho0 (below_size zB)); replace BK249 := zM (blk_below (g := gb249) (o := .cells #[.int .i64 a0_0, .slice A0_1 l0_1.length c0_1] 29 (0, 0)) (zK BK249.out) hb); replace HB := zM (below_step zB hb); (try clear hb); (try clear hb2); (try clear hk); (try clear hi); (try clear ho0); obtain ⟨Ao44, co44, eo44⟩ := Kd.R_slice HO265.out; subst eo44) | (go_at_call 61; (with_reducible refine (impl_bagOf.calls k1 _ _ t263 t266 _ ?side1 ?side2 A37.out).mono ?_); (case side1 => exact zC (Kd.R_reads' HO265.out).2.2); (case side2 => exact (Kd.R_reads' HO265.out).2.1); rintro e w' ⟨rfl, ⟨nd, rfl⟩⟩))
             go_roundg k1
             case measure => have := HK1.out; omega
             case rel => exact ⟨(wrap64 (x50_1 + 1)), (by first | rfl | (simp; done) | (simp [*]; done)), H', ⟨by have := HK1.out; omega⟩, ⟨zK BK249.out⟩, ⟨zB⟩⟩
       · rw [if_neg c33] at H
         have c33b0 : decide (x50_1 < a0_0) = false := decide_eq_false c33
         clear c33
         obtain rfl := Option.some.inj H
         go_wp2
         go_ret
         exact ⟨by first | rfl | (simp [errW_none, errW_some] <;> rfl) | (simp [*, errW_none, errW_some] <;> rfl), zB⟩

end Go.Proofs.Ytnlmijnbfdhdkaa.P
namespace Go.Proofs.Ytnlmijnbfdhdkaa.P
open Go.RowKit Go.Proofs.YtnlmijnbfdhdkaaW.PrintWords Go.Proofs.YtnlmijnbfdhdkaaW.PrintLast Go.Proofs.YtnlmijnbfdhdkaaW.PrintMore
attribute [local go_sem] max2_int min2_int max_two min_two max_three min_three max_four min_four   -- for this text's walks alone
set_option linter.unusedVariables false
set_option linter.unusedSimpArgs false

/-! ### impl_between: function 99 -/
def impl_between.f (a0 : Int) (a1 : Int) (a2 : Int) : Option (Bool) := if a0 ≥ a1 then (some (decide (a0 ≤ a2))) else (some false)
set_option maxHeartbeats 8000000 in
set_option maxRecDepth 100000 in
theorem impl_between.calls (a0 : Int) (a1 : Int) (a2 : Int) (r : Bool) (w : World) (h : impl_between.f a0 a1 a2 = some r) :
 Calls Try.prog 99 #[.int .i64 a0, .int .i64 a1, .int .i64 a2] w fun e w' => e = .returned (.bool r) ∧ Drawn0 w w' := by
 have H : (if a0 ≥ a1 then (some (decide (a0 ≤ a2))) else (some false)) = some r := h
 clear h
 by_cases c4 : a0 ≥ a1
 · rw [if_pos c4] at H
   have c4b0 : decide (a1 ≤ a0) = true := decide_eq_true c4
   clear c4
   obtain rfl := Option.some.inj H
   go_enter Try.func99, Try.ntmps99
   go_wp2
   go_ret
   exact ⟨by first | rfl | (simp; done) | (simp [*]; done), by repeat (first | exact Drawn0.refl _ | apply Drawn0.step)⟩
 · rw [if_neg c4] at H
   have c4b0 : decide (a1 ≤ a0) = false := decide_eq_false c4
   clear c4
   obtain rfl := Option.some.inj H
   go_enter Try.func99, Try.ntmps99
   go_wp2
   go_ret
   exact ⟨by first | rfl | (simp; done) | (simp [*]; done), by repeat (first | exact Drawn0.refl _ | apply Drawn0.step)⟩

end Go.Proofs.Ytnlmijnbfdhdkaa.P
namespace Go.Proofs.Ytnlmijnbfdhdkaa.P
open Go.RowKit Go.Proofs.YtnlmijnbfdhdkaaW.PrintWords Go.Proofs.YtnlmijnbfdhdkaaW.PrintLast Go.Proofs.YtnlmijnbfdhdkaaW.PrintMore
attribute [local go_sem] max2_int min2_int max_two min_two max_three min_three max_four min_four   -- for this text's walks alone
set_option linter.unusedVariables false
set_option linter.unusedSimpArgs false

/-! ### impl_isRising: function 84 -/
def impl_isRising.l0 : Nat → List Int → Int → List Int → Int → Int → Option (Bool)
 | 0, _, _, _, _, _ => none
 | k + 1, x0, x1, x7, x8, x9 => if x9 < x8 then (if 0 ≤ x9 then (if x9 < (x7.length : Int) then ((impl_between.f (rd x7 x9) 0 (wrap64 (x1 - 1))).bind fun t268 => (if t268 = true then (if x9 > 0 then (if 0 ≤ (wrap64 (x9 - 1)) then (if (wrap64 (x9 - 1)) < (x0.length : Int) then (if (rd x7 x9) ≤ (rd x0 (wrap64 (x9 - 1))) then (some false) else (impl_isRising.l0 k x0 x1 x7 x8 (wrap64 (x9 + 1)))) else (none)) else (none)) else (impl_isRising.l0 k x0 x1 x7 x8 (wrap64 (x9 + 1)))) else (some false))) else (none)) else (none)) else (some true)
def impl_isRising.f (k : Nat) (l0 : List Int) (a1 : Int) : Option (Bool) := impl_isRising.l0 k l0 a1 l0 (l0.length : Int) 0
set_option maxHeartbeats 8000000 in
set_option maxRecDepth 100000 in
theorem impl_isRising.calls (k : Nat) (A0 : Option Addr) (c0 : Nat) (l0 : List Int) (a1 : Int) (r : Bool) (w : World) (hr0 : Kd.C (Kd.int .i64) w A0 l0.length l0) (hc0 : l0.length ≤ c0) (h : impl_isRising.f k l0 a1 = some r) :
 Calls Try.prog 84 #[.slice A0 l0.length c0, .int .i64 a1] w fun e w' => e = .returned (.bool r) ∧ Drawn0 w w' := by
 have HR0 := Aside0.mk hr0
 have HC0 := Aside0.mk hc0
 clear hr0 hc0
 have H : (impl_isRising.l0 k l0 a1 l0 (l0.length : Int) 0) = some r := h
 clear h
 have H' := Aside0.mk H
 clear H
 go_enter Try.func84, Try.ntmps84
 go_wp2
 go_loopg [9] k (fun kq v9 w' => ∃ (x9_1 : Int), v9 = .int .i64 x9_1 ∧ Aside0 (impl_isRising.l0 kq l0 a1 l0 (l0.length : Int) x9_1 = some r) ∧ Aside0 (kq ≤ k) ∧ Drawn0 w w')
 case atStart => exact ⟨(0), (by first | rfl | (simp; done) | (simp [*]; done)), H', ⟨Nat.le_refl _⟩, by repeat (first | exact Drawn0.refl _ | apply Drawn0.step)⟩
 case round =>
  clear H'
  try clear p2
  obtain ⟨x9_1, rfl, HA, HK1, ⟨m1, rfl⟩⟩ := hrel
  cases gk with
  | zero => exact absurd HA.out (by simp [impl_isRising.l0])
  | succ k1 =>
   have H := HA.out
   clear HA
   simp only [impl_isRising.l0] at H
   by_cases c3 : x9_1 < (l0.length : Int)
   · rw [if_pos c3] at H
     have c3b0 := decide_eq_true c3
     clear c3
     by_cases c4 : 0 ≤ x9_1
     · rw [if_pos c4] at H
       have c4b0 := decide_eq_true c4
       clear c4
       by_cases c5 : x9_1 < (l0.length : Int)
       · rw [if_pos c5] at H
         have c5b0 := decide_eq_true c5
         clear c5
         replace H := Option.bind_eq_some_iff.mp H
         obtain ⟨t268, A60, H⟩ := H
         have A6 := Aside0.mk A60
         clear A60
         by_cases c7 : t268 = true
         · subst c7
           rw [if_pos rfl] at H
           by_cases c8 : x9_1 > 0
           · rw [if_pos c8] at H
             have c8b0 : decide (0 < x9_1) = true := decide_eq_true c8
             clear c8
             obtain ⟨ji9, hji9⟩ : ∃ j_ : Int, (wrap64 (x9_1 - 1)) = j_ := ⟨_, rfl⟩
             replace H : (if 0 ≤ (ji9) then (if (ji9) < (l0.length : Int) then (if (rd l0 x9_1) ≤ (rd l0 (ji9)) then (some false) else (impl_isRising.l0 k1 l0 a1 l0 (l0.length : Int) (wrap64 (x9_1 + 1)))) else (none)) else (none)) = some r := by first | (rw [hji9] at H; exact H) | (simp only [hji9] at H ⊢; exact H)
             (try rw [hji9] at A6)
             have hji9w : (IntKind.i64.wrap (x9_1 - 1)) = ji9 := (i64_w _).trans hji9
             by_cases c10 : 0 ≤ (ji9)
             · rw [if_pos c10] at H
               have c10b0 := decide_eq_true c10
               clear c10
               by_cases c11 : (ji9) < (l0.length : Int)
               · rw [if_pos c11] at H
                 have c11b0 := decide_eq_true c11
                 clear c11
                 by_cases c12 : (rd l0 x9_1) ≤ (rd l0 (ji9))
                 · rw [if_pos c12] at H
                   have c12b0 := decide_eq_true c12
                   clear c12
                   obtain rfl := Option.some.inj H
                   have p267 : 0 ≤ (x9_1 : Int) := of_decide_eq_true zA
                   have q267 : x9_1 < (l0.length : Int) := of_decide_eq_true zA
                   obtain ⟨ad267, e267, hx267_0⟩ := Kd.at_int HR0.out x9_1 p267 q267
                   cases e267
                   replace p267 := eq_true p267
                   replace q267 := eq_true q267
                   go_wp2_with (first | ((with_reducible refine gate_callee (f := 99) rfl ?_); refine zc 17 Try.func99 #[.int .i64 (rd l0 x9_1), .int .i64 0, .int .i64 (wrap64 (a1 - 1))] ?_; (with_reducible refine (impl_between.calls (rd l0 x9_1) 0 (wrap64 (a1 - 1)) true _ A6.out).mono ?_); rintro e w' ⟨rfl, ⟨nd, rfl⟩⟩; refine ⟨_, rfl, ?_⟩; have p269 : 0 ≤ ((ji9) : Int) := of_decide_eq_true zA; have q269 : (ji9) < (l0.length : Int) := of_decide_eq_true zA; obtain ⟨ad269, e269, hx269_0⟩ := Kd.at_int HR0.out (ji9) p269 q269; obtain rfl : ad267 = ad269 := (by injection e269); replace p269 := eq_true p269; replace q269 := eq_true q269))
                   go_ret
                   exact ⟨by first | rfl | (simp; done) | (simp only [← hji9] <;> (first | rfl | simp)) | (simp [*]; done), by repeat (first | exact Drawn0.refl _ | apply Drawn0.step)⟩
                 · rw [if_neg c12] at H
                   have c12b0 : decide ((rd l0 x9_1) ≤ (rd l0 (ji9))) = false := decide_eq_false c12
                   clear c12
                   have H' := Aside0.mk H
                   clear H
                   have p267 : 0 ≤ (x9_1 : Int) := of_decide_eq_true zA
                   have q267 : x9_1 < (l0.length : Int) := of_decide_eq_true zA
                   obtain ⟨ad267, e267, hx267_0⟩ := Kd.at_int HR0.out x9_1 p267 q267
                   cases e267
                   replace p267 := eq_true p267
                   replace q267 := eq_true q267
                   go_wp2_with (first | ((with_reducible refine gate_callee (f := 99) rfl ?_); refine zc 17 Try.func99 #[.int .i64 (rd l0 x9_1), .int .i64 0, .int .i64 (wrap64 (a1 - 1))] ?_; (with_reducible refine (impl_between.calls (rd l0 x9_1) 0 (wrap64 (a1 - 1)) true _ A6.out).mono ?_); rintro e w' ⟨rfl, ⟨nd, rfl⟩⟩; refine ⟨_, rfl, ?_⟩; have p269 : 0 ≤ ((ji9) : Int) := of_decide_eq_true zA; have q269 : (ji9) < (l0.length : Int) := of_decide_eq_true zA; obtain ⟨ad269, e269, hx269_0⟩ := Kd.at_int HR0.out (ji9) p269 q269; obtain rfl : ad267 = ad269 := (by injection e269); replace p269 := eq_true p269; replace q269 := eq_true q269))
                   go_roundg k1
                   case measure => have := HK1.out; omega
                   case rel => exact ⟨(wrap64 (x9_1 + 1)), (by first | rfl | (simp; done) | (simp [*]; done)), H', ⟨by have := HK1.out; omega⟩, by repeat (first | exact Drawn0.refl _ | apply Drawn0.step)⟩
               · rw [if_neg c11] at H
                 exact absurd H (by simp)
             · rw [if_neg c10] at H
               exact absurd H (by simp)
           · rw [if_neg c8] at H
             have c8b0 : decide (0 < x9_1) = false := decide_eq_false c8
             clear c8
             have H' := Aside0.mk H
             clear H
             have p267 : 0 ≤ (x9_1 : Int) := of_decide_eq_true zA
             have q267 : x9_1 < (l0.length : Int) := of_decide_eq_true zA
             obtain ⟨ad267, e267, hx267_0⟩ := Kd.at_int HR0.out x9_1 p267 q267
             cases e267
             replace p267 := eq_true p267
             replace q267 := eq_true q267
             go_wp2_with (first | ((with_reducible refine gate_callee (f := 99) rfl ?_); refine zc 17 Try.func99 #[.int .i64 (rd l0 x9_1), .int .i64 0, .int .i64 (wrap64 (a1 - 1))] ?_; (with_reducible refine (impl_between.calls (rd l0 x9_1) 0 (wrap64 (a1 - 1)) true _ A6.out).mono ?_); rintro e w' ⟨rfl, ⟨nd, rfl⟩⟩; refine ⟨_, rfl, ?_⟩))
             go_roundg k1
             case measure => have := HK1.out; omega
             case rel => exact ⟨(wrap64 (x9_1 + 1)), (by first | rfl | (simp; done) | (simp [*]; done)), H', ⟨by have := HK1.out; omega⟩, by repeat (first | exact Drawn0.refl _ | apply Drawn0.step)⟩
         · replace c7 := Bool.eq_false_iff.mpr c7
           subst c7
           have H1 : (some false) = some r := by rw [if_neg (show ¬ (false = true) by decide)] at H; exact H
           clear H
           have H := H1
           clear H1
           obtain rfl := Option.some.inj H
           have p267 : 0 ≤ (x9_1 : Int) := of_decide_eq_true zA
           have q267 : x9_1 < (l0.length : Int) := of_decide_eq_true zA
           obtain ⟨ad267, e267, hx267_0⟩ := Kd.at_int HR0.out x9_1 p267 q267
           cases e267
           replace p267 := eq_true p267
           replace q267 := eq_true q267
           go_wp2_with (first | ((with_reducible refine gate_callee (f := 99) rfl ?_); refine zc 17 Try.func99 #[.int .i64 (rd l0 x9_1), .int .i64 0, .int .i64 (wrap64 (a1 - 1))] ?_; (with_reducible refine (impl_between.calls (rd l0 x9_1) 0 (wrap64 (a1 - 1)) false _ A6.out).mono ?_); rintro e w' ⟨rfl, ⟨nd, rfl⟩⟩; refine ⟨_, rfl, ?_⟩))
           go_ret
           exact ⟨by first | rfl | (simp; done) | (simp [*]; done), by repeat (first | exact Drawn0.refl _ | apply Drawn0.step)⟩
       · rw [if_neg c5] at H
         exact absurd H (by simp)
     · rw [if_neg c4] at H
       exact absurd H (by simp)
   · rw [if_neg c3] at H
     have c3b0 : decide (x9_1 < (l0.length : Int)) = false := decide_eq_false c3
     clear c3
     obtain rfl := Option.some.inj H
     go_wp2
     go_ret
     exact ⟨by first | rfl | (simp; done) | (simp [*]; done), by repeat (first | exact Drawn0.refl _ | apply Drawn0.step)⟩

end Go.Proofs.Ytnlmijnbfdhdkaa.P
namespace Go.Proofs.Ytnlmijnbfdhdkaa.P
open Go.RowKit Go.Proofs.YtnlmijnbfdhdkaaW.PrintWords Go.Proofs.YtnlmijnbfdhdkaaW.PrintLast Go.Proofs.YtnlmijnbfdhdkaaW.PrintMore
attribute [local go_sem] max2_int min2_int max_two min_two max_three min_three max_four min_four   -- for this text's walks alone
set_option linter.unusedVariables false
set_option linter.unusedSimpArgs false

/-! ### cmp_isNaN_int: function 150 -/
def cmp_isNaN_int.f (a0 : Int) : Option (Bool) := some (a0 != a0)
set_option maxHeartbeats 8000000 in
set_option maxRecDepth 100000 in
theorem cmp_isNaN_int.calls (a0 : Int) (r : Bool) (w : World) (h : cmp_isNaN_int.f a0 = some r) :
 Calls Try.prog 150 #[.int .i64 a0] w fun e w' => e = .returned (.bool r) ∧ Drawn0 w w' := by
 have H : (some (a0 != a0)) = some r := h
 clear h
 obtain rfl := Option.some.inj H
 go_enter Try.func150, Try.ntmps150
 go_wp2
 go_ret
 exact ⟨by first | rfl | (simp; done) | (simp [*]; done), by repeat (first | exact Drawn0.refl _ | apply Drawn0.step)⟩

end Go.Proofs.Ytnlmijnbfdhdkaa.P
namespace Go.Proofs.Ytnlmijnbfdhdkaa.P
open Go.RowKit Go.Proofs.YtnlmijnbfdhdkaaW.PrintWords Go.Proofs.YtnlmijnbfdhdkaaW.PrintLast Go.Proofs.YtnlmijnbfdhdkaaW.PrintMore
attribute [local go_sem] max2_int min2_int max_two min_two max_three min_three max_four min_four   -- for this text's walks alone
set_option linter.unusedVariables false
set_option linter.unusedSimpArgs false

/-! ### cmp_Compare_int: function 148 -/
def cmp_Compare_int.f (a0 : Int) (a1 : Int) : Option (Int) := (cmp_isNaN_int.f a0).bind fun t270 => ((cmp_isNaN_int.f a1).bind fun t271 => (if t270 = true then (if t271 = true then (some 0) else (some (-1))) else (if t271 = true then (some 1) else (if a0 < a1 then (some (-1)) else (if a0 > a1 then (some 1) else (some 0))))))
set_option maxHeartbeats 8000000 in
set_option maxRecDepth 100000 in
theorem cmp_Compare_int.calls (a0 : Int) (a1 : Int) (r : Int) (w : World) (h : cmp_Compare_int.f a0 a1 = some r) :
 Calls Try.prog 148 #[.int .i64 a0, .int .i64 a1] w fun e w' => e = .returned (.int .i64 r) ∧ Drawn0 w w' := by
 have H : ((cmp_isNaN_int.f a0).bind fun t270 => ((cmp_isNaN_int.f a1).bind fun t271 => (if t270 = true then (if t271 = true then (some 0) else (some (-1))) else (if t271 = true then (some 1) else (if a0 < a1 then (some (-1)) else (if a0 > a1 then (some 1) else (some 0))))))) = some r := h
 clear h
 replace H := Option.bind_eq_some_iff.mp H
 obtain ⟨t270, A30, H⟩ := H
 have A3 := Aside0.mk A30
 clear A30
 replace H := Option.bind_eq_some_iff.mp H
 obtain ⟨t271, A40, H⟩ := H
 have A4 := Aside0.mk A40
 clear A40
 by_cases c5 : t270 = true
 · subst c5
   rw [if_pos rfl] at H
   by_cases c6 : t271 = true
   · subst c6
     rw [if_pos rfl] at H
     obtain rfl := Option.some.inj H
     go_enter Try.func148, Try.ntmps148
     go_wp2_with (first | ((with_reducible refine gate_callee (f := 150) rfl ?_); refine zc 8 Try.func150 #[.int .i64 a0] ?_; (with_reducible refine (cmp_isNaN_int.calls a0 true _ A3.out).mono ?_); rintro e w' ⟨rfl, ⟨nd, rfl⟩⟩; refine ⟨_, rfl, ?_⟩) | ((with_reducible refine gate_callee (f := 150) rfl ?_); refine zc 10 Try.func150 #[.int .i64 a1] ?_; (with_reducible refine (cmp_isNaN_int.calls a1 true _ A4.out).mono ?_); rintro e w' ⟨rfl, ⟨nd, rfl⟩⟩; refine ⟨_, rfl, ?_⟩))
     go_ret
     exact ⟨by first | rfl | (simp; done) | (simp [*]; done), by repeat (first | exact Drawn0.refl _ | apply Drawn0.step)⟩
   · replace c6 := Bool.eq_false_iff.mpr c6
     subst c6
     have H1 : (some (-1)) = some r := by rw [if_neg (show ¬ (false = true) by decide)] at H; exact H
     clear H
     have H := H1
     clear H1
     obtain rfl := Option.some.inj H
     go_enter Try.func148, Try.ntmps148
     go_wp2_with (first | ((with_reducible refine gate_callee (f := 150) rfl ?_); refine zc 8 Try.func150 #[.int .i64 a0] ?_; (with_reducible refine (cmp_isNaN_int.calls a0 true _ A3.out).mono ?_); rintro e w' ⟨rfl, ⟨nd, rfl⟩⟩; refine ⟨_, rfl, ?_⟩) | ((with_reducible refine gate_callee (f := 150) rfl ?_); refine zc 10 Try.func150 #[.int .i64 a1] ?_; (with_reducible refine (cmp_isNaN_int.calls a1 false _ A4.out).mono ?_); rintro e w' ⟨rfl, ⟨nd, rfl⟩⟩; refine ⟨_, rfl, ?_⟩))
     go_ret
     exact ⟨by first | rfl | (simp; done) | (simp [*]; done), by repeat (first | exact Drawn0.refl _ | apply Drawn0.step)⟩
 · replace c5 := Bool.eq_false_iff.mpr c5
   subst c5
   have H1 : (if t271 = true then (some 1) else (if a0 < a1 then (some (-1)) else (if a0 > a1 then (some 1) else (some 0)))) = some r := by rw [if_neg (show ¬ (false = true) by decide)] at H; exact H
   clear H
   have H := H1
   clear H1
   by_cases c7 : t271 = true
   · subst c7
     rw [if_pos rfl] at H
     obtain rfl := Option.some.inj H
     go_enter Try.func148, Try.ntmps148
     go_wp2_with (first | ((with_reducible refine gate_callee (f := 150) rfl ?_); refine zc 8 Try.func150 #[.int .i64 a0] ?_; (with_reducible refine (cmp_isNaN_int.calls a0 false _ A3.out).mono ?_); rintro e w' ⟨rfl, ⟨nd, rfl⟩⟩; refine ⟨_, rfl, ?_⟩) | ((with_reducible refine gate_callee (f := 150) rfl ?_); refine zc 10 Try.func150 #[.int .i64 a1] ?_; (with_reducible refine (cmp_isNaN_int.calls a1 true _ A4.out).mono ?_); rintro e w' ⟨rfl, ⟨nd, rfl⟩⟩; refine ⟨_, rfl, ?_⟩))
     go_ret
     exact ⟨by first | rfl | (simp; done) | (simp [*]; done), by repeat (first | exact Drawn0.refl _ | apply Drawn0.step)⟩
   · replace c7 := Bool.eq_false_iff.mpr c7
     subst c7
     have H1 : (if a0 < a1 then (some (-1)) else (if a0 > a1 then (some 1) else (some 0))) = some r := by rw [if_neg (show ¬ (false = true) by decide)] at H; exact H
     clear H
     have H := H1
     clear H1
     by_cases c8 : a0 < a1
     · rw [if_pos c8] at H
       have c8b0 := decide_eq_true c8
       clear c8
       obtain rfl := Option.some.inj H
       go_enter Try.func148, Try.ntmps148
       go_wp2_with (first | ((with_reducible refine gate_callee (f := 150) rfl ?_); refine zc 8 Try.func150 #[.int .i64 a0] ?_; (with_reducible refine (cmp_isNaN_int.calls a0 false _ A3.out).mono ?_); rintro e w' ⟨rfl, ⟨nd, rfl⟩⟩; refine ⟨_, rfl, ?_⟩) | ((with_reducible refine gate_callee (f := 150) rfl ?_); refine zc 10 Try.func150 #[.int .i64 a1] ?_; (with_reducible refine (cmp_isNaN_int.calls a1 false _ A4.out).mono ?_); rintro e w' ⟨rfl, ⟨nd, rfl⟩⟩; refine ⟨_, rfl, ?_⟩))
       go_ret
       exact ⟨by first | rfl | (simp; done) | (simp [*]; done), by repeat (first | exact Drawn0.refl _ | apply Drawn0.step)⟩
     · rw [if_neg c8] at H
       have c8b0 : decide (a0 < a1) = false := decide_eq_false c8
       clear c8
       by_cases c9 : a0 > a1
       · rw [if_pos c9] at H
         have c9b0 : decide (a1 < a0) = true := decide_eq_true c9
         clear c9
         obtain rfl := Option.some.inj H
         go_enter Try.func148, Try.ntmps148
         go_wp2_with (first | ((with_reducible refine gate_callee (f := 150) rfl ?_); refine zc 8 Try.func150 #[.int .i64 a0] ?_; (with_reducible refine (cmp_isNaN_int.calls a0 false _ A3.out).mono ?_); rintro e w' ⟨rfl, ⟨nd, rfl⟩⟩; refine ⟨_, rfl, ?_⟩) | ((with_reducible refine gate_callee (f := 150) rfl ?_); refine zc 10 Try.func150 #[.int .i64 a1] ?_; (with_reducible refine (cmp_isNaN_int.calls a1 false _ A4.out).mono ?_); rintro e w' ⟨rfl, ⟨nd, rfl⟩⟩; refine ⟨_, rfl, ?_⟩))
         go_ret
         exact ⟨by first | rfl | (simp; done) | (simp [*]; done), by repeat (first | exact Drawn0.refl _ | apply Drawn0.step)⟩
       · rw [if_neg c9] at H
         have c9b0 : decide (a1 < a0) = false := decide_eq_false c9
         clear c9
         obtain rfl := Option.some.inj H
         go_enter Try.func148, Try.ntmps148
         go_wp2_with (first | ((with_reducible refine gate_callee (f := 150) rfl ?_); refine zc 8 Try.func150 #[.int .i64 a0] ?_; (with_reducible refine (cmp_isNaN_int.calls a0 false _ A3.out).mono ?_); rintro e w' ⟨rfl, ⟨nd, rfl⟩⟩; refine ⟨_, rfl, ?_⟩) | ((with_reducible refine gate_callee (f := 150) rfl ?_); refine zc 10 Try.func150 #[.int .i64 a1] ?_; (with_reducible refine (cmp_isNaN_int.calls a1 false _ A4.out).mono ?_); rintro e w' ⟨rfl, ⟨nd, rfl⟩⟩; refine ⟨_, rfl, ?_⟩))
         go_ret
         exact ⟨by first | rfl | (simp; done) | (simp [*]; done), by repeat (first | exact Drawn0.refl _ | apply Drawn0.step)⟩

end Go.Proofs.Ytnlmijnbfdhdkaa.P
namespace Go.Proofs.Ytnlmijnbfdhdkaa.P
open Go.RowKit Go.Proofs.YtnlmijnbfdhdkaaW.PrintWords Go.Proofs.YtnlmijnbfdhdkaaW.PrintLast Go.Proofs.YtnlmijnbfdhdkaaW.PrintMore
attribute [local go_sem] max2_int min2_int max_two min_two max_three min_three max_four min_four   -- for this text's walks alone
set_option linter.unusedVariables false
set_option linter.unusedSimpArgs false

/-! ### cmp_Or_int: function 163 -/
def cmp_Or_int.l0 : Nat → Int → List Int → Int → Int → Option (Int)
 | 0, _, _, _, _ => none
 | k + 1, x3, x6, x7, x8 => if x8 < x7 then (if 0 ≤ x8 then (if x8 < (x6.length : Int) then (if (rd x6 x8) = x3 then (cmp_Or_int.l0 k x3 x6 x7 (wrap64 (x8 + 1))) else (some (rd x6 x8))) else (none)) else (none)) else (some x3)
def cmp_Or_int.f (k : Nat) (l0 : List Int) : Option (Int) := cmp_Or_int.l0 k 0 l0 (l0.length : Int) 0
set_option maxHeartbeats 8000000 in
set_option maxRecDepth 100000 in
theorem cmp_Or_int.calls (k : Nat) (A0 : Option Addr) (c0 : Nat) (l0 : List Int) (r : Int) (w : World) (hr0 : Kd.C (Kd.int .i64) w A0 l0.length l0) (hc0 : l0.length ≤ c0) (h : cmp_Or_int.f k l0 = some r) :
 Calls Try.prog 163 #[.slice A0 l0.length c0] w fun e w' => e = .returned (.int .i64 r) ∧ Drawn0 w w' := by
 have HR0 := Aside0.mk hr0
 have HC0 := Aside0.mk hc0
 clear hr0 hc0
 have H : (cmp_Or_int.l0 k 0 l0 (l0.length : Int) 0) = some r := h
 clear h
 have H' := Aside0.mk H
 clear H
 go_enter Try.func163, Try.ntmps163
 go_wp2
 go_loopg [8] k (fun kq v8 w' => ∃ (x8_1 : Int), v8 = .int .i64 x8_1 ∧ Aside0 (cmp_Or_int.l0 kq 0 l0 (l0.length : Int) x8_1 = some r) ∧ Aside0 (kq ≤ k) ∧ Drawn0 w w')
 case atStart => exact ⟨(0), (by first | rfl | (simp; done) | (simp [*]; done)), H', ⟨Nat.le_refl _⟩, by repeat (first | exact Drawn0.refl _ | apply Drawn0.step)⟩
 case round =>
  clear H'
  try clear c1
  obtain ⟨x8_1, rfl, HA, HK1, ⟨m1, rfl⟩⟩ := hrel
  cases gk with
  | zero => exact absurd HA.out (by simp [cmp_Or_int.l0])
  | succ k1 =>
   have H := HA.out
   clear HA
   simp only [cmp_Or_int.l0] at H
   by_cases c2 : x8_1 < (l0.length : Int)
   · rw [if_pos c2] at H
     have c2b0 := decide_eq_true c2
     clear c2
     by_cases c3 : 0 ≤ x8_1
     · rw [if_pos c3] at H
       have c3b0 := decide_eq_true c3
       clear c3
       by_cases c4 : x8_1 < (l0.length : Int)
       · rw [if_pos c4] at H
         have c4b0 := decide_eq_true c4
         clear c4
         by_cases c5 : (rd l0 x8_1) = 0
         · rw [if_pos c5] at H
           have c5b0 : ((rd l0 x8_1) == 0) = true := beq_iff_eq.mpr c5
           have c5b1 : ((rd l0 x8_1) != 0) = false := bne_eq_false_iff_eq.mpr c5
           clear c5
           have H' := Aside0.mk H
           clear H
           have p272 : 0 ≤ (x8_1 : Int) := of_decide_eq_true zA
           have q272 : x8_1 < (l0.length : Int) := of_decide_eq_true zA
           obtain ⟨ad272, e272, hx272_0⟩ := Kd.at_int HR0.out x8_1 p272 q272
           cases e272
           replace p272 := eq_true p272
           replace q272 := eq_true q272
           go_wp2
           go_roundg k1
           case measure => have := HK1.out; omega
           case rel => exact ⟨(wrap64 (x8_1 + 1)), (by first | rfl | (simp; done) | (simp [*]; done)), H', ⟨by have := HK1.out; omega⟩, by repeat (first | exact Drawn0.refl _ | apply Drawn0.step)⟩
         · rw [if_neg c5] at H
           have c5b0 : ((rd l0 x8_1) == 0) = false := beq_eq_false_iff_ne.mpr c5
           have c5b1 : ((rd l0 x8_1) != 0) = true := bne_iff_ne.mpr c5
           obtain rfl := Option.some.inj H
           have p272 : 0 ≤ (x8_1 : Int) := of_decide_eq_true zA
           have q272 : x8_1 < (l0.length : Int) := of_decide_eq_true zA
           obtain ⟨ad272, e272, hx272_0⟩ := Kd.at_int HR0.out x8_1 p272 q272
           cases e272
           replace p272 := eq_true p272
           replace q272 := eq_true q272
           go_wp2
           go_ret
           exact ⟨by first | rfl | (simp; done) | (simp [*]; done), by repeat (first | exact Drawn0.refl _ | apply Drawn0.step)⟩
       · rw [if_neg c4] at H
         exact absurd H (by simp)
     · rw [if_neg c3] at H
       exact absurd H (by simp)
   · rw [if_neg c2] at H
     have c2b0 : decide (x8_1 < (l0.length : Int)) = false := decide_eq_false c2
     clear c2
     obtain rfl := Option.some.inj H
     go_wp2
     go_ret
     exact ⟨by first | rfl | (simp; done) | (simp [*]; done), by repeat (first | exact Drawn0.refl _ | apply Drawn0.step)⟩

end Go.Proofs.Ytnlmijnbfdhdkaa.P
