/- slices.BinarySearchFunc at [][]int with []int, for whatever comparison, and the place of a state in a Space; for every world. -/
import Derived.Test.YtadjbmcfgjmhkaaGreatLockedTokensG17
import Derived.Sort.OwnSortedInts
namespace Go.Proofs.YtadjbmcfgjmhkaaGreat.P
set_option maxRecDepth 100000
set_option maxHeartbeats 8000000
set_option linter.unusedVariables false
set_option linter.unusedSimpArgs false
open Go.RowKit Go.Proofs.YtadjbmcfgjmhkaaGreatW.PrintWords Go.Proofs.YtadjbmcfgjmhkaaGreatW.PrintLast Go.Proofs.YtadjbmcfgjmhkaaGreatW.PrintMore
theorem at_lists {w : World} {A : Option Addr} {n : Nat} {xs : List (List Int)} (h : Kd.C (Kd.slice 3 (Kd.int .i64)) w A n xs) (i : Nat) (h1 : i < n) : ∃ ad A0 c0, A = some ad ∧ w.cell? (ad.add i) = some (.slice A0 (xs.getD i []).length c0) ∧ (xs.getD i []).length ≤ c0 ∧ (Kd.int .i64).C w A0 (xs.getD i []).length (xs.getD i []) := by
 obtain ⟨ad, c, e, _, hK, hc0⟩ := Kd.C_get h ([] : List Int) (i : Int) (by omega) (by omega)
 have hc : ∀ j u, c[j]? = some u → w.cell? (ad.add ((i : Int).toNat * 1 + j)) = some u := hc0
 obtain ⟨A0, c0, rfl, l0, g0⟩ := hK
 exact ⟨ad, A0, c0, e, by have hq := hc 0 _ rfl; rwa [Nat.mul_one, Nat.add_zero] at hq, l0, g0⟩
def CmpB (g : Nat) (c : List Int → Int) (A1 : Option Addr) (c1 : Nat) (l1 : List Int) (w : World) : Prop :=
 ∀ (W : World) (x : List Int) (A : Option Addr) (cap : Nat), Below w.heap.size w W → Kd.C (Kd.int .i64) W A x.length x → x.length ≤ cap → Calls Tryz.prog g #[.slice A x.length cap, .slice A1 l1.length c1] W fun e w' => e = .returned (.int .i64 (c x)) ∧ Below W.heap.size W w'
set_option maxHeartbeats 2000000 in
theorem bsf_lists (g : Nat) (eg : ∀ (args : Array Value) (w : World), (callFunc g args).run Tryz.prog w = .ok (.enter g args) w) (c : List Int → Int) (A0 : Option Addr) (c0 : Nat) (l0 : List (List Int)) (A1 : Option Addr) (c1 : Nat) (l1 : List Int) (w : World) (hr0 : Kd.C (Kd.slice 3 (Kd.int .i64)) w A0 l0.length l0)
   (hn : l0.length ≤ 4611686018427387904) (hp : CmpB g c A1 c1 l1 w) (R : Nat) (hR : bsGo (fun i => c (l0.getD i [])) (l0.length + 1) 0 l0.length = R) :
  Calls Tryz.prog 90 #[.slice A0 l0.length c0, .slice A1 l1.length c1, .func (.func g) #[] #[]] w fun e w' => e = .returned (.tuple #[.int .i64 R, .bool (decide (R < l0.length) && (c (l0.getD R []) == 0))]) ∧ Below w.heap.size w w' := by
 have HR := Aside0.mk hR
 have HN := Aside0.mk hn
 have HP := Aside0.mk hp
 have HC := Aside0.mk hr0
 have HRn := Aside0.mk (show R ≤ l0.length by rw [← hR]; exact bsGo_le _ _ _ _ (Nat.zero_le _))
 generalize hbb : (decide (R < l0.length) && (c (l0.getD R []) == 0)) = bb
 have HBB := Aside0.mk hbb
 clear hR hn hp hr0 hbb
 go_enter Tryz.func90, Tryz.ntmps90
 go_wp2_with fail
 go_loopg [9, 10] (l0.length + 1) (fun kq v9 v10 w' => ∃ (i j : Nat), v9 = .int .i64 i ∧ v10 = .int .i64 j ∧ Aside0 (i ≤ j ∧ j ≤ l0.length ∧ j - i < kq) ∧ Aside0 (bsGo (fun i => c (l0.getD i [])) kq i j = R) ∧ Aside0 (Below w.heap.size w w'))
 case atStart => exact ⟨0, l0.length, rfl, rfl, ⟨by omega⟩, HR, ⟨Below.refl _ _⟩⟩
 case round =>
   obtain ⟨i, j, rfl, rfl, HI, HG, HB⟩ := hrel
   by_cases q : i < j
   · have hlt : (i + j) / 2 < l0.length := by have := HI.out; omega
     obtain ⟨ad, Ac, cc, e1, hx0, hl0, hrx⟩ := at_lists HC.out ((i + j) / 2) hlt
     cases e1
     replace hx0 := (HB.out.cell (World.block_lt_of_cell? w _ hx0)).trans hx0
     have HX := Aside0.mk (HP.out _ _ _ _ HB.out (Kd.C_below hrx HB.out) hl0)
     clear hrx hl0
     obtain ⟨kq, rfl⟩ : ∃ m, gk = m + 1 := ⟨gk - 1, by have := HI.out; omega⟩
     have HG2 := Aside0.mk (show (if c (l0.getD ((i + j) / 2) []) < 0 then bsGo (fun i => c (l0.getD i [])) kq ((i + j) / 2 + 1) j else bsGo (fun i => c (l0.getD i [])) kq i ((i + j) / 2)) = R by
       have := HG.out; rw [bsGo, if_pos q] at this; exact this)
     clear HG
     generalize l0.getD ((i + j) / 2) [] = x at hx0 HX HG2
     have q0 : ((i : Int) < (j : Int)) := by omega
     have q1 : decide ((i : Int) < (j : Int)) = true := decide_eq_true q0
     have q1b : decide (i < j) = true := decide_eq_true q
     have q2 : (i : Int) + (j : Int) ≤ 9223372036854775807 := by have := HI.out; have := HN.out; omega
     have HQ := Aside0.mk q
     clear q0 q
     have hlt2 : ((i : Int) + (j : Int)) / 2 < (l0.length : Int) := by omega
     have p0 : (0 : Int) ≤ (i : Int) := by omega
     have p1 : (0 : Int) ≤ (j : Int) := by omega
     by_cases y : c x < 0
     · have y1 : decide (c x < 0) = true := decide_eq_true y
       rw [if_pos y] at HG2
       clear y
       go_wp2_with (go_at_fn g; refine HX.out.mono ?_; rintro e w' ⟨rfl, hb⟩)
       go_roundg kq
       case measure => omega
       case rel => exact ⟨(i + j) / 2 + 1, j, by first | rfl | (simp; done) | go_num, rfl, ⟨by have := HI.out; have := HQ.out; omega⟩, HG2, ⟨below_step HB.out hb⟩⟩
     · have y1 : decide (c x < 0) = false := decide_eq_false y
       rw [if_neg y] at HG2
       clear y
       go_wp2_with (go_at_fn g; refine HX.out.mono ?_; rintro e w' ⟨rfl, hb⟩)
       go_roundg kq
       case measure => omega
       case rel => exact ⟨i, (i + j) / 2, rfl, by first | rfl | (simp; done) | go_num, ⟨by have := HI.out; have := HQ.out; omega⟩, HG2, ⟨below_step HB.out hb⟩⟩
   · have q0 : ¬ ((i : Int) < (j : Int)) := by omega
     have q1 : decide ((i : Int) < (j : Int)) = false := decide_eq_false q0
     have q1b : decide (i < j) = false := decide_eq_false q
     obtain rfl : i = j := by have := HI.out; omega
     obtain ⟨kq, rfl⟩ : ∃ m, gk = m + 1 := ⟨gk - 1, by have := HI.out; omega⟩
     obtain rfl : i = R := by have := HG.out; rwa [bsGo_done] at this
     clear HG q0 q
     by_cases z : i < l0.length
     · obtain ⟨ad, Ac, cc, e1, hx0, hl0, hrx⟩ := at_lists HC.out i z
       cases e1
       replace hx0 := (HB.out.cell (World.block_lt_of_cell? w _ hx0)).trans hx0
       have HX := Aside0.mk (HP.out _ _ _ _ HB.out (Kd.C_below hrx HB.out) hl0)
       clear hrx hl0
       have HBC := Aside0.mk (show (c (l0.getD i []) == 0) = bb by have := HBB.out; rwa [decide_eq_true z, Bool.true_and] at this)
       clear HBB HR
       generalize l0.getD i [] = x at hx0 HX HBC
       have z1 : decide ((i : Int) < (l0.length : Int)) = true := decide_eq_true (by omega)
       have z1b : decide (i < l0.length) = true := decide_eq_true z
       have p0 : (0 : Int) ≤ (i : Int) := by omega
       have z2 : (i : Int) < (l0.length : Int) := by omega
       replace p0 := eq_true p0
       replace z2 := eq_true z2
       clear z
       go_wp2_with (go_at_fn g; refine HX.out.mono ?_; rintro e w' ⟨rfl, hb⟩)
       go_ret2
       exact ⟨by rw [← HBC.out]; first | rfl | (simp; done), below_step HB.out hb⟩
     · have HBC := Aside0.mk (show false = bb by have := HBB.out; rwa [decide_eq_false z, Bool.false_and] at this)
       clear HBB HR
       have z1 : decide ((i : Int) < (l0.length : Int)) = false := decide_eq_false (by omega)
       have z1b : decide (i < l0.length) = false := decide_eq_false z
       clear z
       go_wp2
       go_ret2
       exact ⟨by rw [← HBC.out]; first | rfl | (simp; done), HB.out⟩
theorem compare_cmpB (A1 : Option Addr) (c1 : Nat) (l1 : List Int) (w : World) (hr1 : Kd.C (Kd.int .i64) w A1 l1.length l1) (hc1 : l1.length ≤ c1) : CmpB 87 (fun x => cmpL x l1) A1 c1 l1 w := by
 intro W x A cap hb hx hcap
 refine (slices_Compare_int_int.calls (x.length + 1) A cap x A1 c1 l1 (cmpL x l1) W hx hcap (Kd.C_below hr1 hb) hc1 (slices_Compare_at x l1 hx.2.1 _ (Nat.lt_succ_self _))).mono ?_
 rintro e w' ⟨rfl, hd⟩
 exact ⟨rfl, hd.below⟩
def placeR (l0 : List (List Int)) (l1 : List Int) : Nat := bsGo (fun i => cmpL (l0.getD i []) l1) (l0.length + 1) 0 l0.length
def impl_Space_place.f (l0_0 : List (List Int)) (l0_1 : List S69) (l1 : List Int) : Option (Int × Bool) :=
 if l0_0.length ≤ 4611686018427387904 then some ((placeR l0_0 l1 : Int), decide (placeR l0_0 l1 < l0_0.length) && (cmpL (l0_0.getD (placeR l0_0 l1) []) l1 == 0)) else none
set_option maxHeartbeats 1000000 in
theorem impl_Space_place.calls (A0_0 : Option Addr) (c0_0 : Nat) (l0_0 : List (List Int)) (A0_1 : Option Addr) (c0_1 : Nat) (l0_1 : List (S69)) (A1 : Option Addr) (c1 : Nat) (l1 : List Int) (r1 : Int) (r2 : Bool) (w : World) (hr0_0 : Kd.C (Kd.slice 3 (Kd.int .i64)) w A0_0 l0_0.length l0_0) (hc0_0 : l0_0.length ≤ c0_0) (hr0_1 : Kd.C k69 w A0_1 l0_1.length l0_1) (hc0_1 : l0_1.length ≤ c0_1) (hr1 : Kd.C (Kd.int .i64) w A1 l1.length l1) (hc1 : l1.length ≤ c1) (h : impl_Space_place.f l0_0 l0_1 l1 = some (r1, r2)) :
  Calls Tryz.prog 64 #[.agg #[.slice A0_0 l0_0.length c0_0, .slice A0_1 l0_1.length c0_1], .slice A1 l1.length c1] w fun e w' => e = .returned (.tuple #[.int .i64 r1, .bool r2]) ∧ Below w.heap.size w w' := by
 unfold impl_Space_place.f at h
 by_cases hn : l0_0.length ≤ 4611686018427387904
 case neg => rw [if_neg hn] at h; cases h
 rw [if_pos hn] at h
 simp only [Option.some.injEq, Prod.mk.injEq] at h
 obtain ⟨h1, h2⟩ := h
 subst h1
 have H2 := Aside0.mk h2
 have HN := Aside0.mk hn
 clear h2 hn
 have HB1 := Aside0.mk (below_alloc (Below.refl w.heap.size w) (.cells #[.slice A0_0 l0_0.length c0_0, .slice A0_1 l0_1.length c0_1] 52))
 have HP := Aside0.mk (compare_cmpB A1 c1 l1 _ (Kd.C_below hr1 HB1.out) hc1)
 have HR0 := Aside0.mk (Kd.C_below hr0_0 HB1.out)
 clear hr1 hr0_0 hr0_1
 obtain ⟨R, hR⟩ : ∃ R, placeR l0_0 l1 = R := ⟨_, rfl⟩
 rw [hR] at H2 ⊢
 have HR := Aside0.mk hR
 clear hR
 go_enter Tryz.func64, Tryz.ntmps64
 go_wp2_with fail
 go_at_call 90
 refine (bsf_lists _ (enters_of Tryz.func87 (by kernel_rfl) rfl) _ A0_0 c0_0 l0_0 A1 c1 l1 _ HR0.out HN.out HP.out R HR.out).mono ?_
 rintro e w' ⟨rfl, hb⟩
 rw [H2.out]
 have HB := Aside0.mk (below_step HB1.out hb)
 clear hb
 go_wp2
 go_ret2
 exact ⟨by first | rfl | (simp; done), HB.out⟩
def sortL (l : List Int) : List Int := l.mergeSort fun x y => decide (x ≤ y)
def slices_Sort_int_int.f (l : List Int) : Option (List Int) := if l.length < 4611686018427387904 then some (sortL l) else none
theorem sortL_len (l : List Int) : (sortL l).length = l.length := List.length_mergeSort l
theorem slices_Sort_int_int.calls (P0_ : Nat → Prop) (u9000_ : Value) (l0 r : List Int) (w0 w : World) (hB : Below w0.heap.size w0 w) (ho0 : Kd.R (Kd.int .i64) 3 w w0.heap.size P0_ u9000_ l0) (h : slices_Sort_int_int.f l0 = some r) :
   Calls Tryz.prog 70 #[u9000_] w fun e w' => e = .returned (.tuple #[]) ∧ Kd.R (Kd.int .i64) 3 w' w0.heap.size (fun k_ => (P0_ k_ ∨ w.heap.size ≤ k_)) u9000_ r ∧ Below w0.heap.size w0 w' ∧ Kept w w' (fun k_ => P0_ k_) := by
 unfold slices_Sort_int_int.f at h
 by_cases hl : l0.length < 4611686018427387904
 · rw [if_pos hl] at h
   obtain rfl := Option.some.inj h
   have hown := Kd.own_of_R (enc := Value.int .i64) ho0
   rcases hown.2 with ⟨hnil, hz⟩ | ⟨g, cap, cur, rfl, hbase, hb, h1, h2, h3, h4⟩
   · have h0 : l0 = [] := by
      cases l0 with
      | nil => rfl
      | cons x t => simp at hz
     subst h0
     subst hnil
     refine (Tryz.slices_Sort_int_none none 0 w).mono ?_
     rintro e w' ⟨rfl, rfl⟩
     refine ⟨rfl, ?_, hB, Kept.refl _ _⟩
     rw [show sortL [] = [] from by simp [sortL]]
     exact Kd.R_mono ho0 (fun k hk => .inl hk)
   · have hgl : g < w.heap.size := (Array.getElem?_eq_some_iff.1 hb).1
     refine (Tryz.slices_Sort_int g 0 cap l0 w (holds_of_blockI hb (by simpa [encs] using h4)) hgl hl).mono ?_
     rintro e w' ⟨rfl, nn, os, rfl⟩
     have hgr := grownBy_sortedI (w := w) (g := g) (n := nn) (os := os) (sortL l0).toArray
     refine ⟨rfl, ?_, hB.grown hgr hB.size (fun k hk => by injection hk with hk; omega), Kept.of_grown hgr (Kept.refl w _) (fun k hk => .inl (ho0.1 k hk))⟩
     refine Kd.R_of_own (enc := Value.int .i64) ?_ (fun k hk => .inl (ho0.1 k hk))
     rw [sortL_len]
     exact ownsRow_sortedI (sortL_len l0) hbase hb h1 h2 h3
 · rw [if_neg hl] at h
   cases h
attribute [local go_sem] max2_int min2_int max_two min_two max_three min_three max_four min_four
set_option linter.unusedVariables false
set_option linter.unusedSimpArgs false
def sortRows : List (List Int) → Option (List (List Int))
 | [] => some []
 | l :: t => (slices_Sort_int_int.f l).bind fun a => (sortRows t).bind fun b => some (a :: b)
theorem sortRows_cons {l : List Int} {t z : List (List Int)} (h : sortRows (l :: t) = some z) : ∃ a b, slices_Sort_int_int.f l = some a ∧ sortRows t = some b ∧ z = a :: b := by
 rw [sortRows] at h
 obtain ⟨a, ha, h⟩ := Option.bind_eq_some_iff.mp h
 obtain ⟨b, hb, h⟩ := Option.bind_eq_some_iff.mp h
 exact ⟨a, b, ha, hb, (Option.some.inj h).symm⟩
theorem set_midR {α : Type} (done : List α) (l : List α) (m : Nat) (hd : done.length = m) (hm : m < l.length) (x : α) : (done ++ l.drop m).set m x = (done ++ [x]) ++ l.drop (m + 1) := by
 subst hd
 rw [List.drop_eq_getElem_cons hm, List.set_append_right _ _ (Nat.le_refl _), Nat.sub_self, List.set_cons_zero, List.append_assoc, List.singleton_append]
def impl_Space_roads.l0 : Nat → List (List Int) → List (S69) → Int → Int → Option ((List (List Int)))
 | 0, _, _, _, _ => none
 | k + 1, x3, x13, x14, x15 => if x15 < x14 then (if 0 ≤ x15 then (if x15 < (x13.length : Int) then (if 0 ≤ ((rd_T69 x13 x15).f0) then (if ((rd_T69 x13 x15).f0) < (x3.length : Int) then (if (rd_L2 x3 ((rd_T69 x13 x15).f0)).length < 17592186044416 then ((some (x3.set (((rd_T69 x13 x15).f0) : Int).toNat ((rd_L2 x3 ((rd_T69 x13 x15).f0)) ++ [(rd_T69 x13 x15).f1]) : List (List Int))).bind fun y338 => (if 0 ≤ ((rd_T69 x13 x15).f1) then (if ((rd_T69 x13 x15).f1) < (x3.length : Int) then (if (rd_L2 y338 ((rd_T69 x13 x15).f1)).length < 17592186044416 then (impl_Space_roads.l0 k (y338.set (((rd_T69 x13 x15).f1) : Int).toNat ((rd_L2 y338 ((rd_T69 x13 x15).f1)) ++ [(rd_T69 x13 x15).f0])) x13 x14 (wrap64 (x15 + 1))) else (none)) else (none)) else (none))) else (none)) else (none)) else (none)) else (none)) else (none)) else (some x3)
def impl_Space_roads.g (k : Nat) (l0_0 : List (List Int)) (l0_1 : List (S69)) : Option ((List (List Int))) := if 0 ≤ (l0_0.length : Int) then (if ((l0_0.length : Int) : Int).toNat ≤ 11728124029610 then (impl_Space_roads.l0 k (List.replicate ((l0_0.length : Int) : Int).toNat []) l0_1 (l0_1.length : Int) 0) else (none)) else (none)
def impl_Space_roads.T5 : Bool × List (List Nat × List Nat) := (true, [([], []), ([], []), ([1], [1]), ([], []), ([], []), ([4], [4]), ([3, 5], [3, 5]), ([6], [6]), ([], []), ([8], [8]), ([9], [9]), ([7, 10], [7, 10]), ([0, 2, 0, 1, 2, 3, 4, 5, 6, 7, 8, 9, 10, 11], [0, 2]), ([12, 11, 11, 0, 1, 2, 3, 4, 5, 6, 7, 8, 9, 10, 11], [11, 12])])
def impl_Space_roads.B5 : List Nat := [0, 0, 2, 0, 0, 16, 56, 120, 0, 256, 768, 2040, 4095, 8191]
theorem impl_Space_roads.tab5 : rtab .any (opsOf Tryz.f44 5) = impl_Space_roads.T5 := by kernel_rfl
theorem impl_Space_roads.bits5 : waitsOk impl_Space_roads.T5.2 impl_Space_roads.B5 = true := by kernel_rfl
def impl_Space_roads.T6 : Bool × List (List Nat × List Nat) := (true, [([], []), ([], []), ([1], [1]), ([], []), ([], []), ([4], [4]), ([3, 5], [3, 5]), ([6], [6]), ([], []), ([8], [8]), ([9], [9]), ([7, 10], [7, 10]), ([0, 2, 0, 1, 2, 3, 4, 5, 6, 7, 8, 9, 10, 11], [0, 2]), ([12, 11, 11, 0, 1, 2, 3, 4, 5, 6, 7, 8, 9, 10, 11], [11, 12])])
def impl_Space_roads.B6 : List Nat := [0, 0, 2, 0, 0, 16, 56, 120, 0, 256, 768, 2040, 4095, 8191]
theorem impl_Space_roads.tab6 : rtab .any (opsOf Tryz.f44 6) = impl_Space_roads.T6 := by kernel_rfl
theorem impl_Space_roads.bits6 : waitsOk impl_Space_roads.T6.2 impl_Space_roads.B6 = true := by kernel_rfl
theorem impl_Space_roads.calls0 (k : Nat) (A0_0 : Option Addr) (c0_0 : Nat) (l0_0 : List (List Int)) (A0_1 : Option Addr) (c0_1 : Nat) (l0_1 : List (S69)) (r0 r : List (List Int)) (w : World) (hr0_0 : Kd.C (Kd.slice 3 (Kd.int .i64)) w A0_0 l0_0.length l0_0) (hc0_0 : l0_0.length ≤ c0_0) (hr0_1 : Kd.C k69 w A0_1 l0_1.length l0_1) (hc0_1 : l0_1.length ≤ c0_1) (h : impl_Space_roads.g k l0_0 l0_1 = some r0) (hsort : sortRows r0 = some r) :
 Calls Tryz.prog 44 #[.agg #[.slice A0_0 l0_0.length c0_0, .slice A0_1 l0_1.length c0_1]] w fun e w' => ∃ v0_ : Value, e = .returned (v0_) ∧ Kd.S (Kd.slice 3 (Kd.int .i64)) 25 w' w.heap.size (fun _ => True) v0_ r ∧ Below w.heap.size w w' := by
 have hu52 := Tryz.underlying52
 have hu69 := Tryz.underlying69
 have HR0_0 := Aside0.mk hr0_0
 have HC0_0 := Aside0.mk hc0_0
 clear hr0_0 hc0_0
 have HR0_1 := Aside0.mk hr0_1
 have HC0_1 := Aside0.mk hc0_1
 clear hr0_1 hc0_1
 have HSORT := zM hsort
 clear hsort
 have HB := zM (Below.refl w.heap.size w)
 have H : (if 0 ≤ (l0_0.length : Int) then (if ((l0_0.length : Int) : Int).toNat ≤ 11728124029610 then (impl_Space_roads.l0 k (List.replicate ((l0_0.length : Int) : Int).toNat []) l0_1 (l0_1.length : Int) 0) else (none)) else (none)) = some r0 := h
 clear h
 by_cases c2 : 0 ≤ (l0_0.length : Int)
 · rw [if_pos c2] at H
   have c2b0 := eq_true c2
   have c2b1 : decide (0 ≤ (l0_0.length : Int)) = true := decide_eq_true c2
   clear c2
   by_cases c3 : ((l0_0.length : Int) : Int).toNat ≤ 11728124029610
   · rw [if_pos c3] at H
     have c3b0 := eq_true c3
     have c3b1 : decide (((l0_0.length : Int) : Int).toNat ≤ 11728124029610) = true := decide_eq_true c3
     clear c3
     obtain ⟨y329, hy329⟩ : ∃ y_ : List (List Int), y_ = (List.replicate ((l0_0.length : Int) : Int).toNat []) := ⟨_, rfl⟩
     replace H : (impl_Space_roads.l0 k y329 l0_1 (l0_1.length : Int) 0) = some r0 := by first | (rw [hy329]; with_reducible exact H) | (have H2_ := (Option.bind_some _ _).symm.trans H; rw [hy329]; with_reducible exact H2_) | (have H2_ := (Option.bind_some _ _).symm.trans H; with_reducible exact H2_) | with_reducible exact H | (rw [hy329]; exact H) | exact H
     have Ny329 := Aside0.mk hy329
     clear hy329
     have H' := Aside0.mk H
     clear H
     go_enter Tryz.func44, Tryz.ntmps44
     go_wp2_with (first | ((with_reducible refine gate_dst (N := 1) rfl ?_); refine zb (w := w) 1 #[.slice A0_0 l0_0.length c0_0, .slice A0_1 l0_1.length c0_1] 52 zB ?_; clear HB; intro gb328 w4 HB BK328 GW328; have GE328 := GW328; have hcz5_0 := zy BK328 0; have hcz5_1 := zy BK328 1; have hfz5_0 := blk_frozen BK328.out 0; have hfz5_1 := blk_frozen BK328.out 1) | ((with_reducible refine gate_dst (N := 11) rfl ?_); refine Kd.S_make (Kd.slice 3 (Kd.int .i64)) _ 25 rfl (N := 11) rfl 27 _ _ rfl (l0_0.length : Int) rfl rfl Tryz.underlying27 (.slice none 0 0) 24 info25 rfl (by decide) (by omega) [] (ok := fun _ => True) (okp := fun _ => True) ⟨_, rfl, Kd.R_nil _ _ _ _ _⟩ (fun _ hk => hk) trivial (of_decide_eq_true zA) (Nat.le_trans (Nat.mul_le_mul_right _ (of_decide_eq_true zA : (l0_0.length : Int).toNat ≤ 11728124029610)) (by omega)) (Below.refl _ _) (Nat.le_refl _) ?_; intro v330 w6 ho7 hb hg_ hnew_; clear hg_ hnew_; (first | rw [← Ny329.out] at ho7 | (simp only [Int.reduceToNat] at ho7; rw [← Ny329.out] at ho7)); have HO331 := zM (Kd.S_lower ho7 (below_size zB)); replace BK328 := zM (blk_below (g := gb328) (o := .cells #[.slice A0_0 l0_0.length c0_0, .slice A0_1 l0_1.length c0_1] 52 (0, 0)) (zK BK328.out) hb); replace HB := zM (below_step zB hb); clear hb ho7; have hcz8_0 := zy BK328 0; have hcz8_1 := zy BK328 1; have hfz8_0 := blk_frozen BK328.out 0; have hfz8_1 := blk_frozen BK328.out 1))
     go_loopg [15] k (fun kq v15 w' => ∃ (x3_1 : List (List Int)) (x15_1 : Int), v15 = .int .i64 x15_1 ∧ Aside0 (impl_Space_roads.l0 kq x3_1 l0_1 (l0_1.length : Int) x15_1 = some r0) ∧ Aside0 (kq ≤ k) ∧ Aside0 (Kd.S (Kd.slice 3 (Kd.int .i64)) 25 w' w.heap.size (fun _ => True) v330 x3_1) ∧ Aside0 (w'.heap[gb328]? = some (.cells #[(.slice A0_0 l0_0.length c0_0), (.slice A0_1 l0_1.length c0_1)] 52 (0, 0))) ∧ Aside0 (Below w.heap.size w w'))
     case atStart => exact ⟨(y329), (0), (by first | rfl | (simp; done) | (simp [*]; done)), H', ⟨Nat.le_refl _⟩, ⟨by (with_reducible repeat (first | apply Kd.S_alloc | apply Kd.S_drewN | apply Kd.S_drew)); exact HO331.out⟩, ⟨zK BK328.out⟩, ⟨zB⟩⟩
     case round =>
      clear H'
      try clear c2
      try clear c2b0
      try clear c2b1
      try clear p2
      try clear c3
      try clear c3b0
      try clear c3b1
      try clear c4
      try clear hcz5_0
      try clear hcz5_1
      try clear hcz8_0
      try clear hcz8_1
      try clear hfz5_0
      try clear hfz5_1
      try clear hfz8_0
      try clear hfz8_1
      obtain ⟨x3_1, x15_1, rfl, HA, HK1, HO_3, BK328, HB⟩ := hrel
      cases gk with
      | zero => exact absurd HA.out (by simp [impl_Space_roads.l0])
      | succ k1 =>
       have H := HA.out
       clear HA
       simp only [impl_Space_roads.l0] at H
       by_cases c9 : x15_1 < (l0_1.length : Int)
       · rw [if_pos c9] at H
         have c9b0 := decide_eq_true c9
         clear c9
         by_cases c10 : 0 ≤ x15_1
         · rw [if_pos c10] at H
           have c10b0 := decide_eq_true c10
           clear c10
           by_cases c11 : x15_1 < (l0_1.length : Int)
           · rw [if_pos c11] at H
             have c11b0 := decide_eq_true c11
             clear c11
             by_cases c12 : 0 ≤ ((rd_T69 l0_1 x15_1).f0)
             · rw [if_pos c12] at H
               have c12b0 := decide_eq_true c12
               clear c12
               by_cases c13 : ((rd_T69 l0_1 x15_1).f0) < (x3_1.length : Int)
               · rw [if_pos c13] at H
                 have c13b0 := decide_eq_true c13
                 clear c13
                 by_cases c14 : (rd_L2 x3_1 ((rd_T69 l0_1 x15_1).f0)).length < 17592186044416
                 · rw [if_pos c14] at H
                   have LMc14 := Aside0.mk c14
                   clear c14
                   obtain ⟨y335, hy335⟩ : ∃ y_ : List Int, y_ = ((rd_L2 x3_1 ((rd_T69 l0_1 x15_1).f0)) ++ [(rd_T69 l0_1 x15_1).f1]) := ⟨_, rfl⟩
                   replace H : ((some (x3_1.set (((rd_T69 l0_1 x15_1).f0) : Int).toNat y335 : List (List Int))).bind fun y338 => (if 0 ≤ ((rd_T69 l0_1 x15_1).f1) then (if ((rd_T69 l0_1 x15_1).f1) < (x3_1.length : Int) then (if (rd_L2 y338 ((rd_T69 l0_1 x15_1).f1)).length < 17592186044416 then (impl_Space_roads.l0 k1 (y338.set (((rd_T69 l0_1 x15_1).f1) : Int).toNat ((rd_L2 y338 ((rd_T69 l0_1 x15_1).f1)) ++ [(rd_T69 l0_1 x15_1).f0])) l0_1 (l0_1.length : Int) (wrap64 (x15_1 + 1))) else (none)) else (none)) else (none))) = some r0 := by first | (rw [hy335]; with_reducible exact H) | (have H2_ := (Option.bind_some _ _).symm.trans H; rw [hy335]; with_reducible exact H2_) | (have H2_ := (Option.bind_some _ _).symm.trans H; with_reducible exact H2_) | with_reducible exact H | (rw [hy335]; exact H) | exact H
                   have Ny335 := Aside0.mk hy335
                   clear hy335
                   obtain ⟨y338, hy338⟩ : ∃ y_ : List (List Int), y_ = (x3_1.set (((rd_T69 l0_1 x15_1).f0) : Int).toNat y335) := ⟨_, rfl⟩
                   replace H : (if 0 ≤ ((rd_T69 l0_1 x15_1).f1) then (if ((rd_T69 l0_1 x15_1).f1) < (x3_1.length : Int) then (if (rd_L2 y338 ((rd_T69 l0_1 x15_1).f1)).length < 17592186044416 then (impl_Space_roads.l0 k1 (y338.set (((rd_T69 l0_1 x15_1).f1) : Int).toNat ((rd_L2 y338 ((rd_T69 l0_1 x15_1).f1)) ++ [(rd_T69 l0_1 x15_1).f0])) l0_1 (l0_1.length : Int) (wrap64 (x15_1 + 1))) else (none)) else (none)) else (none)) = some r0 := by first | (rw [hy338]; with_reducible exact H) | (have H2_ := (Option.bind_some _ _).symm.trans H; rw [hy338]; with_reducible exact H2_) | (have H2_ := (Option.bind_some _ _).symm.trans H; with_reducible exact H2_) | with_reducible exact H | (rw [hy338]; exact H) | exact H
                   have Ny338 := Aside0.mk hy338
                   clear hy338
                   by_cases c16 : 0 ≤ ((rd_T69 l0_1 x15_1).f1)
                   · rw [if_pos c16] at H
                     have c16b0 := decide_eq_true c16
                     clear c16
                     by_cases c17 : ((rd_T69 l0_1 x15_1).f1) < (x3_1.length : Int)
                     · rw [if_pos c17] at H
                       have c17b0 := decide_eq_true c17
                       clear c17
                       by_cases c18 : (rd_L2 y338 ((rd_T69 l0_1 x15_1).f1)).length < 17592186044416
                       · rw [if_pos c18] at H
                         have LMc18 := Aside0.mk c18
                         clear c18
                         obtain ⟨y340, hy340⟩ : ∃ y_ : List Int, y_ = ((rd_L2 y338 ((rd_T69 l0_1 x15_1).f1)) ++ [(rd_T69 l0_1 x15_1).f0]) := ⟨_, rfl⟩
                         replace H : (impl_Space_roads.l0 k1 (y338.set (((rd_T69 l0_1 x15_1).f1) : Int).toNat y340) l0_1 (l0_1.length : Int) (wrap64 (x15_1 + 1))) = some r0 := by first | (rw [hy340]; with_reducible exact H) | (have H2_ := (Option.bind_some _ _).symm.trans H; rw [hy340]; with_reducible exact H2_) | (have H2_ := (Option.bind_some _ _).symm.trans H; with_reducible exact H2_) | with_reducible exact H | (rw [hy340]; exact H) | exact H
                         have Ny340 := Aside0.mk hy340
                         clear hy340
                         obtain ⟨y343, hy343⟩ : ∃ y_ : List (List Int), y_ = (y338.set (((rd_T69 l0_1 x15_1).f1) : Int).toNat y340) := ⟨_, rfl⟩
                         replace H : (impl_Space_roads.l0 k1 y343 l0_1 (l0_1.length : Int) (wrap64 (x15_1 + 1))) = some r0 := by first | (rw [hy343]; with_reducible exact H) | (have H2_ := (Option.bind_some _ _).symm.trans H; rw [hy343]; with_reducible exact H2_) | (have H2_ := (Option.bind_some _ _).symm.trans H; with_reducible exact H2_) | with_reducible exact H | (rw [hy343]; exact H) | exact H
                         have Ny343 := Aside0.mk hy343
                         clear hy343
                         have H' := Aside0.mk H
                         clear H
                         have p332 : 0 ≤ (x15_1 : Int) := of_decide_eq_true zA
                         have q332 : x15_1 < (l0_1.length : Int) := of_decide_eq_true zA
                         obtain ⟨ad332, e332, hx332_0, hx332_1⟩ := at_T69 HR0_1.out x15_1 p332 q332
                         cases e332
                         (try replace hx332_0 := (HB.out.cell (World.block_lt_of_cell? w _ hx332_0)).trans hx332_0)
                         (try replace hx332_1 := (HB.out.cell (World.block_lt_of_cell? w _ hx332_1)).trans hx332_1)
                         replace p332 := eq_true p332
                         replace q332 := eq_true q332
                         try go_wp2_with (first | ((with_reducible refine gate_dst (N := 5) rfl ?_); refine ze 5 #[.int .i64 0, .int .i64 0] 69 ?_; intro gb333 hg w20 hbox hb; replace HO_3 := zM (Kd.S_below (by (with_reducible repeat (first | apply Kd.S_alloc | apply Kd.S_drewN | apply Kd.S_drew)); exact HO_3.out) hb); have BK333 := zM (hbox); have GW333 := zM ((by rw [hg]; exact (below_size zB) : w.heap.size ≤ gb333)); have GE333 := zM ((by rw [hg]; exact (below_size zB) : w.heap.size ≤ gb333)); replace HB := zM (below_step zB hb); have NB328_333 := zM ((by rw [hg]; exact Nat.ne_of_lt (blk_lt (g := gb328) (o := .cells #[.slice A0_0 l0_0.length c0_0, .slice (some ad332) l0_1.length c0_1] 52 (0, 0)) (zK BK328.out)) : gb328 ≠ gb333)); have NB333_328 := zM ((by rw [hg]; exact Nat.ne_of_gt (blk_lt (g := gb328) (o := .cells #[.slice A0_0 l0_0.length c0_0, .slice (some ad332) l0_1.length c0_1] 52 (0, 0)) (zK BK328.out)) : gb333 ≠ gb328)); replace BK328 := zM (blk_below (g := gb328) (o := .cells #[.slice A0_0 l0_0.length c0_0, .slice (some ad332) l0_1.length c0_1] 52 (0, 0)) (zK BK328.out) hb); clear hb hbox hg; have hnb21 := NB333_328.out; have hnc21 := NB328_333.out; have hcz22_0 := zy BK333 0; have hcz22_1 := zy BK333 1; have hfz22_0 := blk_frozen BK333.out 0; have hfz22_1 := blk_frozen BK333.out 1))
                         have n0_ : Aside0 (Kd.S (Kd.slice 3 (Kd.int .i64)) 25 ((w20.setCell ⟨gb333, 0, none⟩ (.int .i64 ((rd_T69 l0_1 x15_1).f0))).setCell ⟨gb333, 1, none⟩ (.int .i64 ((rd_T69 l0_1 x15_1).f1))) w.heap.size (fun _ => True) v330 x3_1) := ⟨by (with_reducible repeat (first | apply Kd.S_alloc | apply Kd.S_drewN | apply Kd.S_drew)); exact Kd.S_mono (Kd.S_far (p := ⟨gb333, 1, none⟩) (Kd.S_far (p := ⟨gb333, 0, none⟩) (Kd.S_types HO_3.out BK333.out (by decide)) (fun _ hk => hk.2) (.int .i64 ((rd_T69 l0_1 x15_1).f0))) (fun _ hk => hk.2) (.int .i64 ((rd_T69 l0_1 x15_1).f1))) (fun _ hk => trivial)⟩
                         have n1_ : Aside0 (((w20.setCell ⟨gb333, 0, none⟩ (.int .i64 ((rd_T69 l0_1 x15_1).f0))).setCell ⟨gb333, 1, none⟩ (.int .i64 ((rd_T69 l0_1 x15_1).f1))).heap[gb328]? = some (.cells #[.slice A0_0 l0_0.length c0_0, .slice (some ad332) l0_1.length c0_1] 52 (0, 0))) := ⟨by (with_reducible repeat (first | refine blk_drewN ?_ _ | refine blk_drew ?_ | refine blk_alloc ?_ _)); refine blk_far ?_ NB328_333.out _; (with_reducible repeat (first | refine blk_drewN ?_ _ | refine blk_drew ?_ | refine blk_alloc ?_ _)); refine blk_far ?_ NB328_333.out _; (with_reducible repeat (first | refine blk_drewN ?_ _ | refine blk_drew ?_ | refine blk_alloc ?_ _)); exact BK328.out⟩
                         have n2_ : Aside0 (((w20.setCell ⟨gb333, 0, none⟩ (.int .i64 ((rd_T69 l0_1 x15_1).f0))).setCell ⟨gb333, 1, none⟩ (.int .i64 ((rd_T69 l0_1 x15_1).f1))).heap[gb333]? = some (.cells #[.int .i64 ((rd_T69 l0_1 x15_1).f0), .int .i64 ((rd_T69 l0_1 x15_1).f1)] 69 (0, 0))) := ⟨by (with_reducible repeat (first | refine blk_drewN ?_ _ | refine blk_drew ?_ | refine blk_alloc ?_ _)); refine blk_put (cs := #[.int .i64 ((rd_T69 l0_1 x15_1).f0), .int .i64 0]) ?_ 1 _ rfl; (with_reducible repeat (first | refine blk_drewN ?_ _ | refine blk_drew ?_ | refine blk_alloc ?_ _)); refine blk_put (cs := #[.int .i64 0, .int .i64 0]) ?_ 0 _ rfl; (with_reducible repeat (first | refine blk_drewN ?_ _ | refine blk_drew ?_ | refine blk_alloc ?_ _)); exact BK333.out⟩
                         have n3_ : Aside0 (Below w.heap.size w ((w20.setCell ⟨gb333, 0, none⟩ (.int .i64 ((rd_T69 l0_1 x15_1).f0))).setCell ⟨gb333, 1, none⟩ (.int .i64 ((rd_T69 l0_1 x15_1).f1)))) := ⟨zB⟩
                         (try clear HO_3)
                         (try clear BK328)
                         (try clear BK333)
                         (try clear HB)
                         generalize ((w20.setCell ⟨gb333, 0, none⟩ (.int .i64 ((rd_T69 l0_1 x15_1).f0))).setCell ⟨gb333, 1, none⟩ (.int .i64 ((rd_T69 l0_1 x15_1).f1))) = w23 at n0_ n1_ n2_ n3_ ⊢
                         have HO_3 := n0_
                         have BK328 := n1_
                         have BK333 := n2_
                         have HB := n3_
                         clear n0_ n1_ n2_ n3_
                         replace HO_3 := zM (Kd.S_drew HO_3.out)
                         replace BK328 := zM (blk_drew BK328.out)
                         replace BK333 := zM (blk_drew BK333.out)
                         replace HB := zM (below_drew1 HB.out)
                         obtain ⟨Ao25, co25, eo25⟩ := Kd.S_slice HO_3.out
                         (first | subst eo25 | (injection eo25 with f1_ f2_ f3_; have f4_ := f1_.symm; have f5_ := f3_.symm; clear f1_ f2_ f3_; subst f4_; subst f5_))
                         have p334 : 0 ≤ (((rd_T69 l0_1 x15_1).f0) : Int) := of_decide_eq_true zA
                         have q334 : ((rd_T69 l0_1 x15_1).f0) < (x3_1.length : Int) := of_decide_eq_true zA
                         obtain ⟨ad334, A334_0, c334_0, e334, hx334_0, hl334_0, hi334_0⟩ := at_L2 (Kd.S_reads' HO_3.out).2.2 ((rd_T69 l0_1 x15_1).f0) p334 q334
                         cases e334
                         obtain ⟨ce334, hce334, hMe334, hcc334⟩ := Kd.S_get HO_3.out [] ((rd_T69 l0_1 x15_1).f0) p334 (by first | exact q334 | exact of_decide_eq_true zA | (have e_ := (Kd.S_reads' HO_3.out).1; omega))
                         obtain ⟨ve334_0, rfl, ge334_0⟩ := hMe334
                         have hv334_0 := hcc334 0 _ rfl
                         rw [Nat.add_zero, show ((Kd.slice 3 (Kd.int .i64))).sz = 1 from rfl, Nat.mul_one] at hv334_0
                         replace hv334_0 := Option.some.inj (hv334_0.symm.trans hx334_0)
                         rw [hv334_0] at ge334_0
                         have HL334_0 := zM (show Kd.R (Kd.int .i64) 3 _ _ _ _ (rd_L2 x3_1 ((rd_T69 l0_1 x15_1).f0)) from ge334_0)
                         clear hv334_0 ge334_0
                         have HX334_0 := Aside0.mk hx334_0
                         clear hcc334 hce334
                         have HR334_0 := Aside0.mk hi334_0
                         have HC334_0 := Aside0.mk hl334_0
                         clear hi334_0 hl334_0
                         replace p334 := eq_true p334
                         replace q334 := eq_true q334
                         obtain ⟨go26, co26, eo26, gb26, gl26, cl26, HG26⟩ := Kd.S_form HO_3.out (by have h_ : (((rd_T69 l0_1 x15_1).f0) : Int) < ((x3_1.length : Int) : Int) := of_decide_eq_true zA; have h2_ : 0 ≤ (((rd_T69 l0_1 x15_1).f0) : Int) := (of_decide_eq_true zA); omega)
                         (first | cases eo26 | (injection eo26 with ea_ en_ ec_; (first | subst ea_ | (injection ea_ with ea_; subst ea_)); subst ec_; clear en_))
                         have GB26 := Aside0.mk gb26
                         have GG26 := Aside0.mk HG26
                         clear gb26 gl26 HG26
                         (first | simp only [add_plain] at hx334_0 | skip)
                         obtain ⟨oki26, ce26, hcl26, hM26, hcc26, _, _, hH26⟩ := Kd.S_elem HO_3.out [] (((rd_T69 l0_1 x15_1).f0) : Int) (of_decide_eq_true zA) (by have h_ : (((rd_T69 l0_1 x15_1).f0) : Int) < ((x3_1.length : Int) : Int) := of_decide_eq_true zA; first | exact h_ | (have e_ := (Kd.S_reads' HO_3.out).1; omega) | simpa using h_)
                         obtain ⟨ve26_0, rfl, ge26_0⟩ := hM26
                         have hv26 := hcc26 0 _ rfl
                         have hX26 := HX334_0.out
                         (try simp only [add_plain] at hX26)
                         (try simp only [Nat.add_zero] at hv26)
                         (try rw [show ((Kd.slice 3 (Kd.int .i64))).sz = 1 from rfl, Nat.mul_one] at hv26)
                         replace hv26 := Option.some.inj (hv26.symm.trans hX26)
                         subst hv26
                         clear hX26 hcc26 hcl26
                         have UU26 := zM (show Kd.R (Kd.int .i64) 3 _ w.heap.size oki26 (.slice A334_0 (rd_L2 x3_1 ((rd_T69 l0_1 x15_1).f0)).length c334_0) (rd_L2 x3_1 ((rd_T69 l0_1 x15_1).f0)) from ge26_0)
                         have HH26 := Aside0.mk hH26
                         have HN26 := zM (Kd.S_reads' HO_3.out).1
                         clear hH26 ge26_0
                         refine start_ (n := 14) (S := fun w' => w'.cell? ⟨gb333, 0, none⟩ = some (.int .i64 ((rd_T69 l0_1 x15_1).f0)) ∧ w'.cell? ⟨gb333, 1, none⟩ = some (.int .i64 ((rd_T69 l0_1 x15_1).f1)) ∧ w'.cell? ⟨go26, (((rd_T69 l0_1 x15_1).f0)).toNat, none⟩ = some (.slice A334_0 (rd_L2 x3_1 ((rd_T69 l0_1 x15_1).f0)).length c334_0)) (ds := [13]) #[false, false, false, false, false, false, false, false, false, false, false, false, false, false] (by kernel_rfl) rfl rfl ⟨(blk_cell BK333.out 0).trans rfl, (blk_cell BK333.out 1).trans rfl, hx334_0⟩ (fun hHeld => ?_); refine with_tabW impl_Space_roads.tab5 impl_Space_roads.bits5 (fun HT_ HW_ => ?_)
                         generalize w23.drew = w24 at HO_3 BK328 BK333 HB GG26 HH26 HL334_0 HR334_0 HX334_0 UU26 hx334_0 hHeld ⊢
                         refine zp HT_ 0 19 ?_
                         refine zp HT_ 1 20 ?_
                         refine zp HT_ 3 22 ?_
                         refine zp HT_ 4 23 ?_
                         refine zp HT_ 8 27 ?_
                         refine zt HT_ HW_ 2 21 hHeld ?_ (hy := by rintro w' ⟨s0, s1, s2⟩; go_simp; with_reducible rfl)
                         refine zt HT_ HW_ 5 24 hHeld ?_ (hy := by rintro w' ⟨s0, s1, s2⟩; go_simp; with_reducible rfl)
                         refine zp HT_ 6 25 ?_
                         refine zt HT_ HW_ 7 26 hHeld ?_ (hy := by rintro w' ⟨s0, s1, s2⟩; go_simp; with_reducible rfl)
                         refine zt HT_ HW_ 9 28 hHeld ?_ (hy := by rintro w' ⟨s0, s1, s2⟩; go_simp; with_reducible rfl)
                         refine one_ (i := 10) (N := some 29) #[true, true, true, true, true, true, true, true, true, true, true, false, false, false] rfl rfl (one_of HT_.out (by kernel_rfl)) (by decide) (fun K hK => ?_)
                         refine value_ (w1 := ?_) (v := ?_) (by rfl) rfl ?_ ?_
                         rotate_left 2
                         · go_simp
                           constructor
                           · rfl
                           · rfl
                         refine hK.out _ _ ⟨(blk_cell (blk_alloc BK333.out _) 0).trans rfl, (blk_cell (blk_alloc BK333.out _) 1).trans rfl, (World.cell?_alloc_lt _ _ _ (World.block_lt_of_cell? _ _ (hHeld.2.2))).trans (hHeld.2.2)⟩ (fun hHeld => ?_)
                         clear hK K
                         refine zn 29 ?_
                         refine one_ (i := 11) (N := some 30) #[true, true, true, true, true, true, true, true, true, true, true, true, false, false] rfl rfl (one_of HT_.out (by kernel_rfl)) (by decide) (fun K hK => ?_)
                         refine Kd.R_append_step (Kd.int .i64) (w0 := w) w.heap.size (by rfl) (.tmp 26) (.tmp 29) 25 3 (.int .i64 0) 8 rfl Tryz.underlying25 info3 rfl (by decide) (by omega) (.slice A334_0 (rd_L2 x3_1 ((rd_T69 l0_1 x15_1).f0)).length c334_0) (rd_L2 x3_1 ((rd_T69 l0_1 x15_1).f0)) ((rd_T69 l0_1 x15_1).f1) [.int .i64 ((rd_T69 l0_1 x15_1).f1)] (fun k_ => oki26 k_ ∨ ((fun _ => True)) k_ ∧ w24.heap.size ≤ k_) (fun _ => False) rfl rfl ?aP (fun _ hk => hk.elim) ?aF ?aO ?aB ?aS ?aL ?_
                         (case aP => exact rfl)
                         (case aB => exact zB)
                         (case aF => exact (fun k_ hk => .inr ⟨trivial, hk⟩))
                         (case aO => exact (by (with_reducible repeat (first | apply Kd.R_alloc | apply Kd.R_drewN | apply Kd.R_drew)); exact Kd.R_mono UU26.out (fun _ hk => .inl hk)))
                         (case aS => exact (below_size zB))
                         (case aL => have := LMc14.out; omega)
                         intro v336 w27 ho hb hg hat
                         (first | have HS2_ := Go.Proofs.YtadjbmcfgjmhkaaGreatW.PrintWords.cell_grown hg (hHeld.2.2) (by first | (rw [add_block]; exact (fun e_ => ((HL334_0.out.1 _ e_.symm).2) rfl)) | (show some (Addr.add _ _).block ≠ _; rw [add_block]; exact (fun e_ => ((HL334_0.out.1 _ e_.symm).2) rfl)) | exact (fun e_ => ((HL334_0.out.1 _ e_.symm).2) rfl)) | have HS2_ := Go.Proofs.YtadjbmcfgjmhkaaGreatW.PrintWords.cell_grown hg (cell_unalloc (hHeld.2.2) (by first | (rw [add_block]; exact Kd.S_lt HO_3.out _ rfl) | (show (Addr.add _ _).block < _; rw [add_block]; exact Kd.S_lt HO_3.out _ rfl) | exact Kd.S_lt HO_3.out _ rfl)) (by first | (rw [add_block]; exact (fun e_ => ((HL334_0.out.1 _ e_.symm).2) rfl)) | (show some (Addr.add _ _).block ≠ _; rw [add_block]; exact (fun e_ => ((HL334_0.out.1 _ e_.symm).2) rfl)) | exact (fun e_ => ((HL334_0.out.1 _ e_.symm).2) rfl)))
                         rw [← Ny335.out] at ho
                         replace BK328 := zM (blk_grown (g := gb328) (o := .cells #[.slice A0_0 l0_0.length c0_0, .slice (some ad332) l0_1.length c0_1] 52 (0, 0)) (zK BK328.out) hg (Kd.R_ne HL334_0.out BK328.out (by decide)))
                         replace BK333 := zM (blk_grown (g := gb333) (o := .cells #[.int .i64 ((rd_T69 l0_1 x15_1).f0), .int .i64 ((rd_T69 l0_1 x15_1).f1)] 69 (0, 0)) (zK BK333.out) hg (Kd.R_ne HL334_0.out BK333.out (by decide)))
                         replace HB := zM (hb)
                         replace HH26 := zM (Kd.H_grown (Kd.H_widen (by repeat (first | exact HH26.out | refine Kd.H_alloc ?_ _ | refine Kd.H_drewN ?_ _ | refine Kd.H_drew ?_))) hg (fun k_ e_ => .inl (UU26.out.1 k_ e_)))
                         have HO337 := zM (ho)
                         clear HO_3 UU26 HL334_0
                         clear ho hb hg hat
                         have p15 : 0 ≤ (((rd_T69 l0_1 x15_1).f0) : Int) := of_decide_eq_true zA
                         have q15 : (((rd_T69 l0_1 x15_1).f0) : Int) < ((x3_1.length : Int) : Int) := of_decide_eq_true zA
                         replace p15 := eq_true p15
                         replace q15 := eq_true q15
                         obtain ⟨Ao30, co30, eo30⟩ := Kd.R_slice HO337.out
                         (first | subst eo30 | (injection eo30 with f1_ f2_ f3_; have f4_ := f1_.symm; have f5_ := f3_.symm; clear f1_ f2_ f3_; subst f4_; subst f5_))
                         obtain ⟨_, _, hraw28, _, _, hcc28, _⟩ := Kd.H_raw HH26.out (of_decide_eq_true zA) (by have h_ : (((rd_T69 l0_1 x15_1).f0) : Int) < ((x3_1.length : Int) : Int) := of_decide_eq_true zA; first | exact h_ | (have e_ := (HN26.out); omega) | simpa using h_)
                         obtain ⟨_, hfr28⟩ := Kd.H_at HH26.out (of_decide_eq_true zA) (by have h_ : (((rd_T69 l0_1 x15_1).f0) : Int) < ((x3_1.length : Int) : Int) := of_decide_eq_true zA; first | exact h_ | (have e_ := (HN26.out); omega) | simpa using h_)
                         have hx28_0 := hcc28 0 _ rfl
                         have hf28_0 := hfr28 0
                         (try simp only [Nat.add_zero] at hx28_0 hf28_0)
                         (try rw [show ((Kd.slice 3 (Kd.int .i64))).sz = 1 from rfl, Nat.mul_one] at hx28_0)
                         (try rw [show ((Kd.slice 3 (Kd.int .i64))).sz = 1 from rfl, Nat.mul_one] at hf28_0)
                         have HP28 := Kd.S_seg0 HH26.out (of_decide_eq_true zA) (by have h_ : (((rd_T69 l0_1 x15_1).f0) : Int) < ((x3_1.length : Int) : Int) := of_decide_eq_true zA; first | exact h_ | (have e_ := (HN26.out); omega) | simpa using h_) (seg := [.slice Ao30 y335.length co30]) (j := 0) (show 1 ≤ 1 from by decide) (x' := y335) (Kd.M_row HO337.out) (fun _ hk => hk)
                         (try simp only [show ((Kd.slice 3 (Kd.int .i64))).sz = 1 from rfl, Nat.mul_one, Nat.add_zero] at HP28)
                         clear hcc28 hfr28
                         have HNB328_go26 := zM (show gb328 ≠ go26 from by have h_ := Kd.R_ne hraw28 BK328.out (by decide); intro e_; exact h_ (by rw [e_]; rfl))
                         have HNB333_go26 := zM (show gb333 ≠ go26 from by have h_ := Kd.R_ne hraw28 BK333.out (by decide); intro e_; exact h_ (by rw [e_]; rfl))
                         have HS28 := HP28.1
                         rw [← Ny338.out] at HS28
                         have HQ28 := Aside0.mk HS28
                         obtain ⟨_, hgg28⟩ := Kd.R_typed hraw28 go26 rfl
                         have GG28_ := Aside0.mk hgg28
                         clear HP28 HS28 hgg28
                         refine hK.out _ _ ⟨(blk_cell BK333.out 0).trans rfl, (blk_cell BK333.out 1).trans rfl, HS2_⟩ (fun hHeld => ?_)
                         clear hK K
                         refine zn 30 ?_
                         refine zp HT_ 12 31 ?_
                         refine last_ (i := 13) (N := none) #[true, true, true, true, true, true, true, true, true, true, true, true, true, true] rfl rfl (one_of HT_.out (by kernel_rfl)) (by decide) (fun K hK => ?_)
                         refine skip_ (w1 := ?_) (by rfl) rfl ?_ ?_
                         rotate_left
                         · go_simp
                           rfl
                         refine hK.out _ _ ?_
                         clear hK K
                         refine zo HT_ ?_
                         try go_wp2
                         have n0_ : Aside0 (Kd.S (Kd.slice 3 (Kd.int .i64)) 25 (w27.setCell ⟨go26, (((rd_T69 l0_1 x15_1).f0) : Int).toNat, none⟩ (.slice Ao30 y335.length co30)) w.heap.size (fun _ => True) (.slice (some ⟨go26, 0, none⟩) x3_1.length co25) y338) := ⟨by (with_reducible repeat (first | apply Kd.S_alloc | apply Kd.S_drewN | apply Kd.S_drew)); exact HQ28.out⟩
                         have n1_ : Aside0 ((w27.setCell ⟨go26, (((rd_T69 l0_1 x15_1).f0) : Int).toNat, none⟩ (.slice Ao30 y335.length co30)).heap[gb328]? = some (.cells #[.slice A0_0 l0_0.length c0_0, .slice (some ad332) l0_1.length c0_1] 52 (0, 0))) := ⟨by (with_reducible repeat (first | refine blk_drewN ?_ _ | refine blk_drew ?_ | refine blk_alloc ?_ _)); refine blk_far ?_ HNB328_go26.out _; (with_reducible repeat (first | refine blk_drewN ?_ _ | refine blk_drew ?_ | refine blk_alloc ?_ _)); exact BK328.out⟩
                         have n2_ : Aside0 ((w27.setCell ⟨go26, (((rd_T69 l0_1 x15_1).f0) : Int).toNat, none⟩ (.slice Ao30 y335.length co30)).heap[gb333]? = some (.cells #[.int .i64 ((rd_T69 l0_1 x15_1).f0), .int .i64 ((rd_T69 l0_1 x15_1).f1)] 69 (0, 0))) := ⟨by (with_reducible repeat (first | refine blk_drewN ?_ _ | refine blk_drew ?_ | refine blk_alloc ?_ _)); refine blk_far ?_ HNB333_go26.out _; (with_reducible repeat (first | refine blk_drewN ?_ _ | refine blk_drew ?_ | refine blk_alloc ?_ _)); exact BK333.out⟩
                         have n3_ : Aside0 (Below w.heap.size w (w27.setCell ⟨go26, (((rd_T69 l0_1 x15_1).f0) : Int).toNat, none⟩ (.slice Ao30 y335.length co30))) := ⟨zB⟩
                         (try clear HO_3)
                         (try clear BK328)
                         (try clear BK333)
                         (try clear HB)
                         generalize (w27.setCell ⟨go26, (((rd_T69 l0_1 x15_1).f0) : Int).toNat, none⟩ (.slice Ao30 y335.length co30)) = w31 at n0_ n1_ n2_ n3_ ⊢
                         have HO_3 := n0_
                         have BK328 := n1_
                         have BK333 := n2_
                         have HB := n3_
                         clear n0_ n1_ n2_ n3_
                         replace HO_3 := zM (Kd.S_drew HO_3.out)
                         replace BK328 := zM (blk_drew BK328.out)
                         replace BK333 := zM (blk_drew BK333.out)
                         replace HB := zM (below_drew1 HB.out)
                         have p339 : 0 ≤ (((rd_T69 l0_1 x15_1).f1) : Int) := of_decide_eq_true zA
                         have q339 : ((rd_T69 l0_1 x15_1).f1) < (y338.length : Int) := (by have h_ : (((rd_T69 l0_1 x15_1).f1) : Int) < ((x3_1.length : Int) : Int) := of_decide_eq_true zA; first | (have e_ := (Kd.S_reads' HO_3.out).1; omega) | simpa only [Ny338.out, List.length_set] using h_)
                         have ql339 : ((((rd_T69 l0_1 x15_1).f1) : Int) < ((x3_1.length : Int) : Int)) = True := eq_true (of_decide_eq_true zA)
                         obtain ⟨ad339, A339_0, c339_0, e339, hx339_0, hl339_0, hi339_0⟩ := at_L2 (Kd.S_reads' HO_3.out).2.2 ((rd_T69 l0_1 x15_1).f1) p339 q339
                         obtain rfl : (⟨go26, 0, none⟩ : Addr) = ad339 := (by injection e339)
                         obtain ⟨ce339, hce339, hMe339, hcc339⟩ := Kd.S_get HO_3.out [] ((rd_T69 l0_1 x15_1).f1) p339 (by first | exact q339 | exact of_decide_eq_true zA | (have e_ := (Kd.S_reads' HO_3.out).1; omega))
                         obtain ⟨ve339_0, rfl, ge339_0⟩ := hMe339
                         have hv339_0 := hcc339 0 _ rfl
                         rw [Nat.add_zero, show ((Kd.slice 3 (Kd.int .i64))).sz = 1 from rfl, Nat.mul_one] at hv339_0
                         replace hv339_0 := Option.some.inj (hv339_0.symm.trans hx339_0)
                         rw [hv339_0] at ge339_0
                         have HL339_0 := zM (show Kd.R (Kd.int .i64) 3 _ _ _ _ (rd_L2 y338 ((rd_T69 l0_1 x15_1).f1)) from ge339_0)
                         clear hv339_0 ge339_0
                         have HX339_0 := Aside0.mk hx339_0
                         clear hcc339 hce339
                         (first | simp only [add_plain] at hx339_0 | simp only [add_at] at hx339_0 | simp only [Addr.add, Nat.zero_add] at hx339_0 | skip)
                         have HR339_0 := Aside0.mk hi339_0
                         have HC339_0 := Aside0.mk hl339_0
                         clear hi339_0 hl339_0
                         replace p339 := eq_true p339
                         replace q339 := eq_true q339
                         obtain ⟨oki33, ce33, hcl33, hM33, hcc33, _, _, hH33⟩ := Kd.S_elem HO_3.out [] (((rd_T69 l0_1 x15_1).f1) : Int) (of_decide_eq_true zA) (by have h_ : (((rd_T69 l0_1 x15_1).f1) : Int) < ((x3_1.length : Int) : Int) := of_decide_eq_true zA; first | exact h_ | (have e_ := (Kd.S_reads' HO_3.out).1; omega) | simpa using h_)
                         obtain ⟨ve33_0, rfl, ge33_0⟩ := hM33
                         have hv33 := hcc33 0 _ rfl
                         have hX33 := HX339_0.out
                         (try simp only [add_plain] at hX33)
                         (try simp only [Nat.add_zero] at hv33)
                         (try rw [show ((Kd.slice 3 (Kd.int .i64))).sz = 1 from rfl, Nat.mul_one] at hv33)
                         replace hv33 := Option.some.inj (hv33.symm.trans hX33)
                         subst hv33
                         clear hX33 hcc33 hcl33
                         have UU33 := zM (show Kd.R (Kd.int .i64) 3 _ w.heap.size oki33 (.slice A339_0 (rd_L2 y338 ((rd_T69 l0_1 x15_1).f1)).length c339_0) (rd_L2 y338 ((rd_T69 l0_1 x15_1).f1)) from ge33_0)
                         have HH33 := Aside0.mk hH33
                         have HN33 := zM (Kd.S_reads' HO_3.out).1
                         clear hH33 ge33_0
                         refine start_ (n := 14) (S := fun w' => w'.cell? ⟨gb333, 0, none⟩ = some (.int .i64 ((rd_T69 l0_1 x15_1).f0)) ∧ w'.cell? ⟨gb333, 1, none⟩ = some (.int .i64 ((rd_T69 l0_1 x15_1).f1)) ∧ w'.cell? ⟨go26, (((rd_T69 l0_1 x15_1).f1)).toNat, none⟩ = some (.slice A339_0 (rd_L2 y338 ((rd_T69 l0_1 x15_1).f1)).length c339_0)) (ds := [13]) #[false, false, false, false, false, false, false, false, false, false, false, false, false, false] (by kernel_rfl) rfl rfl ⟨(blk_cell BK333.out 0).trans rfl, (blk_cell BK333.out 1).trans rfl, hx339_0⟩ (fun hHeld => ?_); refine with_tabW impl_Space_roads.tab6 impl_Space_roads.bits6 (fun HT_ HW_ => ?_)
                         generalize w31.drew = w32 at HO_3 BK328 BK333 HB HH33 HL339_0 HQ28 HR339_0 HX339_0 UU33 hx339_0 hHeld ⊢
                         refine zp HT_ 0 32 ?_
                         refine zp HT_ 1 33 ?_
                         refine zp HT_ 3 35 ?_
                         refine zp HT_ 4 36 ?_
                         refine zp HT_ 8 40 ?_
                         refine zt HT_ HW_ 2 34 hHeld ?_ (hy := by rintro w' ⟨s0, s1, s2⟩; go_simp; with_reducible rfl)
                         refine zt HT_ HW_ 5 37 hHeld ?_ (hy := by rintro w' ⟨s0, s1, s2⟩; go_simp; with_reducible rfl)
                         refine zp HT_ 6 38 ?_
                         refine zt HT_ HW_ 7 39 hHeld ?_ (hy := by rintro w' ⟨s0, s1, s2⟩; go_simp; with_reducible rfl)
                         refine zt HT_ HW_ 9 41 hHeld ?_ (hy := by rintro w' ⟨s0, s1, s2⟩; go_simp; with_reducible rfl)
                         refine one_ (i := 10) (N := some 42) #[true, true, true, true, true, true, true, true, true, true, true, false, false, false] rfl rfl (one_of HT_.out (by kernel_rfl)) (by decide) (fun K hK => ?_)
                         refine value_ (w1 := ?_) (v := ?_) (by rfl) rfl ?_ ?_
                         rotate_left 2
                         · go_simp
                           constructor
                           · rfl
                           · rfl
                         refine hK.out _ _ ⟨(blk_cell (blk_alloc BK333.out _) 0).trans rfl, (blk_cell (blk_alloc BK333.out _) 1).trans rfl, (World.cell?_alloc_lt _ _ _ (World.block_lt_of_cell? _ _ (hHeld.2.2))).trans (hHeld.2.2)⟩ (fun hHeld => ?_)
                         clear hK K
                         refine zn 42 ?_
                         refine one_ (i := 11) (N := some 43) #[true, true, true, true, true, true, true, true, true, true, true, true, false, false] rfl rfl (one_of HT_.out (by kernel_rfl)) (by decide) (fun K hK => ?_)
                         refine Kd.R_append_step (Kd.int .i64) (w0 := w) w.heap.size (by rfl) (.tmp 39) (.tmp 42) 25 3 (.int .i64 0) 8 rfl Tryz.underlying25 info3 rfl (by decide) (by omega) (.slice A339_0 (rd_L2 y338 ((rd_T69 l0_1 x15_1).f1)).length c339_0) (rd_L2 y338 ((rd_T69 l0_1 x15_1).f1)) ((rd_T69 l0_1 x15_1).f0) [.int .i64 ((rd_T69 l0_1 x15_1).f0)] (fun k_ => oki33 k_ ∨ ((fun _ => True)) k_ ∧ w32.heap.size ≤ k_) (fun _ => False) rfl rfl ?aP (fun _ hk => hk.elim) ?aF ?aO ?aB ?aS ?aL ?_
                         (case aP => exact rfl)
                         (case aB => exact zB)
                         (case aF => exact (fun k_ hk => .inr ⟨trivial, hk⟩))
                         (case aO => exact (by (with_reducible repeat (first | apply Kd.R_alloc | apply Kd.R_drewN | apply Kd.R_drew)); exact Kd.R_mono UU33.out (fun _ hk => .inl hk)))
                         (case aS => exact (below_size zB))
                         (case aL => have := LMc18.out; omega)
                         intro v341 w34 ho hb hg hat
                         (first | have HS2_ := Go.Proofs.YtadjbmcfgjmhkaaGreatW.PrintWords.cell_grown hg (hHeld.2.2) (by first | (rw [add_block]; exact (fun e_ => ((HL339_0.out.1 _ e_.symm).2) rfl)) | (show some (Addr.add _ _).block ≠ _; rw [add_block]; exact (fun e_ => ((HL339_0.out.1 _ e_.symm).2) rfl)) | exact (fun e_ => ((HL339_0.out.1 _ e_.symm).2) rfl)) | have HS2_ := Go.Proofs.YtadjbmcfgjmhkaaGreatW.PrintWords.cell_grown hg (cell_unalloc (hHeld.2.2) (by first | (rw [add_block]; exact Kd.S_lt HO_3.out _ rfl) | (show (Addr.add _ _).block < _; rw [add_block]; exact Kd.S_lt HO_3.out _ rfl) | exact Kd.S_lt HO_3.out _ rfl)) (by first | (rw [add_block]; exact (fun e_ => ((HL339_0.out.1 _ e_.symm).2) rfl)) | (show some (Addr.add _ _).block ≠ _; rw [add_block]; exact (fun e_ => ((HL339_0.out.1 _ e_.symm).2) rfl)) | exact (fun e_ => ((HL339_0.out.1 _ e_.symm).2) rfl)))
                         rw [← Ny340.out] at ho
                         replace BK328 := zM (blk_grown (g := gb328) (o := .cells #[.slice A0_0 l0_0.length c0_0, .slice (some ad332) l0_1.length c0_1] 52 (0, 0)) (zK BK328.out) hg (Kd.R_ne HL339_0.out BK328.out (by decide)))
                         replace BK333 := zM (blk_grown (g := gb333) (o := .cells #[.int .i64 ((rd_T69 l0_1 x15_1).f0), .int .i64 ((rd_T69 l0_1 x15_1).f1)] 69 (0, 0)) (zK BK333.out) hg (Kd.R_ne HL339_0.out BK333.out (by decide)))
                         replace HB := zM (hb)
                         replace HH33 := zM (Kd.H_grown (Kd.H_widen (by repeat (first | exact HH33.out | refine Kd.H_alloc ?_ _ | refine Kd.H_drewN ?_ _ | refine Kd.H_drew ?_))) hg (fun k_ e_ => .inl (UU33.out.1 k_ e_)))
                         have HO342 := zM (ho)
                         clear HO_3 UU33 HL339_0
                         clear ho hb hg hat
                         have p19 : 0 ≤ (((rd_T69 l0_1 x15_1).f1) : Int) := of_decide_eq_true zA
                         have q19 : (((rd_T69 l0_1 x15_1).f1) : Int) < ((x3_1.length : Int) : Int) := of_decide_eq_true zA
                         replace p19 := eq_true p19
                         replace q19 := eq_true q19
                         obtain ⟨Ao37, co37, eo37⟩ := Kd.R_slice HO342.out
                         (first | subst eo37 | (injection eo37 with f1_ f2_ f3_; have f4_ := f1_.symm; have f5_ := f3_.symm; clear f1_ f2_ f3_; subst f4_; subst f5_))
                         obtain ⟨_, _, hraw35, _, _, hcc35, _⟩ := Kd.H_raw HH33.out (of_decide_eq_true zA) (by have h_ : (((rd_T69 l0_1 x15_1).f1) : Int) < ((x3_1.length : Int) : Int) := of_decide_eq_true zA; first | exact h_ | (have e_ := (HN33.out); omega) | simpa using h_)
                         obtain ⟨_, hfr35⟩ := Kd.H_at HH33.out (of_decide_eq_true zA) (by have h_ : (((rd_T69 l0_1 x15_1).f1) : Int) < ((x3_1.length : Int) : Int) := of_decide_eq_true zA; first | exact h_ | (have e_ := (HN33.out); omega) | simpa using h_)
                         have hx35_0 := hcc35 0 _ rfl
                         have hf35_0 := hfr35 0
                         (try simp only [Nat.add_zero] at hx35_0 hf35_0)
                         (try rw [show ((Kd.slice 3 (Kd.int .i64))).sz = 1 from rfl, Nat.mul_one] at hx35_0)
                         (try rw [show ((Kd.slice 3 (Kd.int .i64))).sz = 1 from rfl, Nat.mul_one] at hf35_0)
                         have HP35 := Kd.S_seg0 HH33.out (of_decide_eq_true zA) (by have h_ : (((rd_T69 l0_1 x15_1).f1) : Int) < ((x3_1.length : Int) : Int) := of_decide_eq_true zA; first | exact h_ | (have e_ := (HN33.out); omega) | simpa using h_) (seg := [.slice Ao37 y340.length co37]) (j := 0) (show 1 ≤ 1 from by decide) (x' := y340) (Kd.M_row HO342.out) (fun _ hk => hk)
                         (try simp only [show ((Kd.slice 3 (Kd.int .i64))).sz = 1 from rfl, Nat.mul_one, Nat.add_zero] at HP35)
                         clear hcc35 hfr35
                         have HNB328_go26 := zM (show gb328 ≠ go26 from by have h_ := Kd.R_ne hraw35 BK328.out (by decide); intro e_; exact h_ (by rw [e_]; rfl))
                         have HNB333_go26 := zM (show gb333 ≠ go26 from by have h_ := Kd.R_ne hraw35 BK333.out (by decide); intro e_; exact h_ (by rw [e_]; rfl))
                         have HS35 := HP35.1
                         rw [← Ny343.out] at HS35
                         have HQ35 := Aside0.mk HS35
                         obtain ⟨_, hgg35⟩ := Kd.R_typed hraw35 go26 rfl
                         have GG35_ := Aside0.mk hgg35
                         clear HP35 HS35 hgg35
                         refine hK.out _ _ ⟨(blk_cell BK333.out 0).trans rfl, (blk_cell BK333.out 1).trans rfl, HS2_⟩ (fun hHeld => ?_)
                         clear hK K
                         refine zn 43 ?_
                         refine zp HT_ 12 44 ?_
                         refine last_ (i := 13) (N := none) #[true, true, true, true, true, true, true, true, true, true, true, true, true, true] rfl rfl (one_of HT_.out (by kernel_rfl)) (by decide) (fun K hK => ?_)
                         refine skip_ (w1 := ?_) (by rfl) rfl ?_ ?_
                         rotate_left
                         · go_simp
                           rfl
                         refine hK.out _ _ ?_
                         clear hK K
                         refine zo HT_ ?_
                         try go_wp2
                         go_roundg k1
                         case measure => have := HK1.out; omega
                         case rel => exact ⟨(y343), (wrap64 (x15_1 + 1)), (by first | rfl | (simp; done) | (simp [*]; done)), H', ⟨by have := HK1.out; omega⟩, ⟨by (with_reducible repeat (first | apply Kd.S_alloc | apply Kd.S_drewN | apply Kd.S_drew)); exact HQ35.out⟩, ⟨by (with_reducible repeat (first | refine blk_drewN ?_ _ | refine blk_drew ?_ | refine blk_alloc ?_ _)); refine blk_far ?_ HNB328_go26.out _; (with_reducible repeat (first | refine blk_drewN ?_ _ | refine blk_drew ?_ | refine blk_alloc ?_ _)); exact BK328.out⟩, ⟨zB⟩⟩
                       · rw [if_neg c18] at H
                         simp at H
                     · rw [if_neg c17] at H
                       simp at H
                   · rw [if_neg c16] at H
                     simp at H
                 · rw [if_neg c14] at H
                   simp at H
               · rw [if_neg c13] at H
                 simp at H
             · rw [if_neg c12] at H
               simp at H
           · rw [if_neg c11] at H
             simp at H
         · rw [if_neg c10] at H
           simp at H
       · rw [if_neg c9] at H
         have c9b0 : decide (x15_1 < (l0_1.length : Int)) = false := decide_eq_false c9
         clear c9
         have e_ := Option.some.inj H
         clear H
         have HO := HO_3.out
         rw [e_] at HO
         clear HO_3 e_
         have HQ := HB
         clear HB HK1
         (try clear BK328)
         obtain ⟨Ar, cr, er⟩ := Kd.S_slice HO
         subst er
         have HO0 := Aside0.mk HO
         clear HO
         have HL := Aside0.mk (show r0.length ≤ 9223372036854775807 by
           obtain ⟨A', c', _, _, hc⟩ := Kd.S_reads HO0.out
           exact hc.2.1)
         go_wp2
         go_loopg [48] (r0.length + 1) (fun kq v48 w' => ∃ (m : Nat) (done : List (List Int)), v48 = .int .i64 m ∧ Aside0 (m ≤ r0.length) ∧ Aside0 (kq = r0.length - m + 1) ∧ Aside0 (done.length = m) ∧ Aside0 (∃ t, sortRows (r0.drop m) = some t ∧ done ++ t = r) ∧ Aside0 (Kd.S (Kd.slice 3 (Kd.int .i64)) 25 w' w.heap.size (fun _ => True) (.slice Ar r0.length cr) (done ++ r0.drop m)) ∧ Aside0 (Below w.heap.size w w'))
         case atStart => exact ⟨0, [], rfl, ⟨Nat.zero_le _⟩, ⟨by omega⟩, ⟨rfl⟩, ⟨by rw [List.drop_zero]; exact ⟨r, HSORT.out, rfl⟩⟩, ⟨by rw [List.drop_zero]; exact HO0.out⟩, HQ⟩
         case round =>
           clear HO0 HQ HSORT
           obtain ⟨m, done, rfl, HM, HK1, HD, HA, HO, HB⟩ := hrel
           have HN := Aside0.mk (show (done ++ r0.drop m).length = r0.length by rw [List.length_append, List.length_drop, HD.out]; have := HM.out; omega)
           by_cases c1 : m < r0.length
           · have q1 : (m : Int) < (r0.length : Int) := by omega
             obtain ⟨g, cap, eg, gb, gl, HG⟩ := Kd.S_form HO.out (by rw [HN.out]; omega)
             rw [HN.out] at eg
             injection eg with eA _ ec
             subst eA; subst ec
             obtain ⟨oki, cs, hcl, hM, hcc, hoki, HH⟩ := Kd.S_lend HO.out ([] : List Int) (m : Int) (by omega) q1
             obtain ⟨v, rfl, hR⟩ := hM
             have hrow : (done ++ r0.drop m).getD (m : Int).toNat [] = r0[m] := by
               rw [Int.toNat_natCast, List.getD_eq_getElem?_getD, List.getElem?_append_right (by rw [HD.out]; exact Nat.le_refl _), HD.out, Nat.sub_self, List.getElem?_drop, Nat.add_zero, List.getElem?_eq_getElem c1, Option.getD_some]
             rw [hrow] at hR
             have hx0 := hcc 0 _ rfl
             rw [Int.toNat_natCast, show (Kd.slice 3 (Kd.int .i64)).sz = 1 from rfl, Nat.mul_one, Nat.add_zero] at hx0
             obtain ⟨t0, ht0, hdt⟩ := HA.out
             rw [List.drop_eq_getElem_cons c1] at ht0
             obtain ⟨a0, t1, hf, ht1, rfl⟩ := sortRows_cons ht0
             have HF := Aside0.mk hf
             have HRo := Aside0.mk hR
             have HHo := Aside0.mk HH
             have HOk := Aside0.mk hoki
             have HE := Aside0.mk (set_midR done r0 m HD.out c1 a0)
             have H2 : Aside0 (∃ t, sortRows (r0.drop (m + 1)) = some t ∧ (done ++ [a0]) ++ t = r) := ⟨t1, ht1, by rw [List.append_assoc, List.singleton_append]; exact hdt⟩
             obtain ⟨Av, cv, ev⟩ := Kd.R_slice hR
             subst ev
             generalize r0[m] = row at HF HRo hx0 HHo
             clear HA hcc hcl gl HG gb hR HH hoki hf hrow ht0 ht1 hdt
             have c1b : decide ((m : Int) < (r0.length : Int)) = true := decide_eq_true q1
             have c1c : decide (m < r0.length) = true := decide_eq_true c1
             have p1 : (0 : Int) ≤ (m : Int) := by omega
             have hw1 : (m : Int) + 1 ≤ 9223372036854775807 := by have := HL.out; omega
             replace p1 := eq_true p1
             replace q1 := eq_true q1
             clear c1
             go_wp2_with (go_at_call 70; refine (slices_Sort_int_int.calls oki _ row a0 w wr HB.out HRo.out HF.out).mono ?_; rintro e w2 ⟨rfl, hy, hb, hkp⟩; have HS := Aside0.mk (Kd.H_back (Kd.H_kept HHo.out hkp (fun _ _ hn => hn)) (x' := a0) ⟨_, rfl, Kd.R_reok rfl hy (fun k_ e_ => HRo.out.1 k_ e_)⟩ (fun _ hk => hk)); have HB2 := Aside0.mk hb; clear hy hb hkp)
             go_roundg (r0.length - m)
             case measure => have := HK1.out; have := HM.out; omega
             case rel => exact ⟨m + 1, done ++ [a0], by first | rfl | (simp; done) | go_num, ⟨by have := of_eq_true q1; omega⟩, ⟨by have := of_eq_true q1; omega⟩, ⟨by rw [List.length_append, HD.out]; rfl⟩, H2, ⟨by rw [← HE.out]; rw [← Int.toNat_natCast m]; exact HS.out⟩, HB2⟩
           · have q1 : ¬ (m : Int) < (r0.length : Int) := by omega
             have c1b : decide ((m : Int) < (r0.length : Int)) = false := decide_eq_false q1
             have c1c : decide (m < r0.length) = false := decide_eq_false c1
             have H3 : Aside0 (done ++ r0.drop m = r) := ⟨by
               obtain ⟨t, ht, hd⟩ := HA.out
               rw [List.drop_eq_nil_of_le (show r0.length ≤ m by omega)] at ht ⊢
               rw [← hd, Option.some.inj (show some [] = some t from ht)]⟩
             clear HA c1 q1
             go_wp2
             go_ret
             exact ⟨_, rfl, by rw [← H3.out]; exact HO.out, HB.out⟩
   · rw [if_neg c3] at H
     simp at H
 · rw [if_neg c2] at H
   simp at H
def impl_Space_roads.f (k : Nat) (l0_0 : List (List Int)) (l0_1 : List (S69)) : Option (List (List Int)) := (impl_Space_roads.g k l0_0 l0_1).bind sortRows
theorem impl_Space_roads.calls (k : Nat) (A0_0 : Option Addr) (c0_0 : Nat) (l0_0 : List (List Int)) (A0_1 : Option Addr) (c0_1 : Nat) (l0_1 : List (S69)) (r : List (List Int)) (w : World) (hr0_0 : Kd.C (Kd.slice 3 (Kd.int .i64)) w A0_0 l0_0.length l0_0) (hc0_0 : l0_0.length ≤ c0_0) (hr0_1 : Kd.C k69 w A0_1 l0_1.length l0_1) (hc0_1 : l0_1.length ≤ c0_1) (h : impl_Space_roads.f k l0_0 l0_1 = some r) :
 Calls Tryz.prog 44 #[.agg #[.slice A0_0 l0_0.length c0_0, .slice A0_1 l0_1.length c0_1]] w fun e w' => ∃ v0_ : Value, e = .returned (v0_) ∧ Kd.S (Kd.slice 3 (Kd.int .i64)) 25 w' w.heap.size (fun _ => True) v0_ r ∧ Below w.heap.size w w' := by
  obtain ⟨r0, h1, h2⟩ := Option.bind_eq_some_iff.mp h
  exact impl_Space_roads.calls0 k A0_0 c0_0 l0_0 A0_1 c0_1 l0_1 r0 r w hr0_0 hc0_0 hr0_1 hc0_1 h1 h2
end Go.Proofs.YtadjbmcfgjmhkaaGreat.P
