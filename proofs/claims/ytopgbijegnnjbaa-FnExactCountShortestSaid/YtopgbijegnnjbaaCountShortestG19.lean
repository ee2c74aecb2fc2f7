/- The contract of impl.CountShortest: out of a printed walk, with the captured list and the sort set in (count.py). -/
import Derived.Test.YtopgbijegnnjbaaCountShortestG15
import Derived.Test.YtopgbijegnnjbaaCountShortestG16
import Derived.Test.YtopgbijegnnjbaaCountShortestG18
import Derived.Test.YtopgbijegnnjbaaCountShortestG5
import Derived.Test.YtopgbijegnnjbaaCountShortestG11
import Derived.Test.YtopgbijegnnjbaaCountShortestG8
namespace Go.Proofs.Ytopgbijegnnjbaa.P
open Go.RowKit Go.Proofs.YtopgbijegnnjbaaW.PrintWords Go.Proofs.YtopgbijegnnjbaaW.PrintLast Go.Proofs.YtopgbijegnnjbaaW.PrintMore
attribute [local go_sem] max2_int min2_int max_two min_two max_three min_three max_four min_four   -- for this text's walks alone
set_option linter.unusedVariables false
set_option linter.unusedSimpArgs false

/-! ### impl_CountShortest: function 7 -/
open Classical in
/-- What comes out whichever order of rising distances is taken. -/
noncomputable def anyOrder {α : Type} (far order : List Int) (F : Nat → List Int → Option α) (v : α) : Option α :=
  if (order.length < 4611686018427387904 ∧ ∀ x ∈ order, 0 ≤ x ∧ x < (far.length : Int)) ∧ ∀ p : List Int, p.Perm order → p.Pairwise (fun a b => rd far a ≤ rd far b) → ∃ k, F k p = some v then some v else none
theorem anyOrder_some {α : Type} {far order : List Int} {F : Nat → List Int → Option α} {v r : α} (h : anyOrder far order F v = some r) : order.length < 4611686018427387904 ∧ (∀ x ∈ order, 0 ≤ x ∧ x < (far.length : Int)) ∧ ∀ p : List Int, p.Perm order → p.Pairwise (fun a b => rd far a ≤ rd far b) → ∃ k, F k p = some r := by
  unfold anyOrder at h
  split at h
  · rename_i c
    obtain rfl := Option.some.inj h
    exact ⟨c.1.1, c.1.2, c.2⟩
  · cases h
mutual
def impl_CountShortest.l1 : Nat → Int → List (List Int) → List Int → List Int → List Int → Int → Int → Option (Int × Bool)
 | 0, _, _, _, _, _, _, _ => none
 | k + 1, x2, x8, x9, x13, x68, x69, x70 => if x70 < x69 then (if 0 ≤ x70 then (if x70 < (x68.length : Int) then (if 0 ≤ (rd x68 x70) then (if (rd x68 x70) < (x8.length : Int) then (impl_CountShortest.l2 k x2 x8 x9 x13 (rd x68 x70) x68 x69 x70 (rd_L1 x8 (rd x68 x70)) ((rd_L1 x8 (rd x68 x70)).length : Int) 0) else (none)) else (none)) else (none)) else (none)) else (if 0 ≤ x2 then (if x2 < (x13.length : Int) then (some (rd x13 x2, true)) else (none)) else (none))
def impl_CountShortest.l2 : Nat → Int → List (List Int) → List Int → List Int → Int → List Int → Int → Int → List Int → Int → Int → Option (Int × Bool)
 | 0, _, _, _, _, _, _, _, _, _, _, _ => none
 | k + 1, x2, x8, x9, x13, x15, x68, x69, x70, x77, x78, x79 => if x79 < x78 then (if 0 ≤ x79 then (if x79 < (x77.length : Int) then (if 0 ≤ (rd x77 x79) then (if (rd x77 x79) < (x9.length : Int) then (if 0 ≤ x15 then (if x15 < (x9.length : Int) then (if (rd x9 (rd x77 x79)) = (wrap64 ((rd x9 x15) + 1)) then (if (rd x77 x79) < (x13.length : Int) then (if x15 < (x13.length : Int) then (impl_CountShortest.l2 k x2 x8 x9 (x13.set ((rd x77 x79) : Int).toNat (mn 1000000 (wrap64 ((rd x13 (rd x77 x79)) + (rd x13 x15))))) x15 x68 x69 x70 x77 x78 (wrap64 (x79 + 1))) else (none)) else (none)) else (impl_CountShortest.l2 k x2 x8 x9 x13 x15 x68 x69 x70 x77 x78 (wrap64 (x79 + 1)))) else (none)) else (none)) else (none)) else (none)) else (none)) else (none)) else (impl_CountShortest.l1 k x2 x8 x9 x13 x68 x69 (wrap64 (x70 + 1)))
end
noncomputable def impl_CountShortest.l0 : Nat → Int → Int → List (List Int) → List Int → List Int → List Int → Int → Int → List (List Int) → List (S50) → Option (Int × Bool)
 | 0, _, _, _, _, _, _, _, _, _, _ => none
 | k + 1, x1, x2, x8, x9, x10, x44, x45, x46, x273000, x273001 => if x46 < x45 then (if 0 ≤ x46 then (if x46 < (x44.length : Int) then (if (rd x44 x46) ≥ 0 then (if x10.length < 17592186044416 then (impl_CountShortest.l0 k x1 x2 x8 x9 (x10 ++ [x46]) x44 x45 (wrap64 (x46 + 1)) x273000 x273001) else (none)) else (impl_CountShortest.l0 k x1 x2 x8 x9 x10 x44 x45 (wrap64 (x46 + 1)) x273000 x273001)) else (none)) else (none)) else (if 0 ≤ (x273000.length : Int) then (if ((x273000.length : Int) : Int).toNat ≤ 35184372088832 then ((some (List.replicate ((x273000.length : Int) : Int).toNat 0 : List Int)).bind fun y290 => (if 0 ≤ x1 then (if x1 < (y290.length : Int) then (anyOrder x9 x10 (fun k_ p_ => impl_CountShortest.l1 k_ x2 x8 x9 (y290.set (x1 : Int).toNat 1) p_ (p_.length : Int) 0) (waysN x8 x9 x1 1000000 x2, true)) else (none)) else (none))) else (none)) else (none))
noncomputable def impl_CountShortest.j0 : Nat → Int → Int → Bool → List (List Int) → List (S50) → Option (Int × Bool)
 | 0, _, _, _, _, _ => none
 | k + 1, x1, x2, x32, x273000, x273001 => if x32 = true then (some (0, false)) else ((impl_Space_roads.f k x273000 x273001).bind fun t276 => ((impl_spread.f k t276 x1).bind fun t279 => (if 0 ≤ x2 then (if x2 < (t279.length : Int) then (if (rd t279 x2) < 0 then (some (0, false)) else (impl_CountShortest.l0 k x1 x2 t276 t279 (([] : List Int)) t279 (t279.length : Int) 0 x273000 x273001)) else (none)) else (none))))
noncomputable def impl_CountShortest.f (k : Nat) (l0_0 : List (List Int)) (l0_1 : List (S50)) (a1 : Int) (a2 : Int) : Option (Int × Bool) := (impl_IsSpace.f k l0_0 l0_1).bind fun t273 => (if t273 = true then ((impl_Space_isPlace.f l0_0 l0_1 a1).bind fun t274 => (if t274 = true then ((impl_Space_isPlace.f l0_0 l0_1 a2).bind fun t275 => (impl_CountShortest.j0 k a1 a2 (!t275) l0_0 l0_1)) else (impl_CountShortest.j0 k a1 a2 true l0_0 l0_1))) else (impl_CountShortest.j0 k a1 a2 true l0_0 l0_1))
def impl_CountShortest.T23 : Bool × List (List Nat × List Nat) := (true, [([], []), ([], []), ([0, 1], [0, 1]), ([2], [2]), ([], []), ([], []), ([4, 5], [4, 5]), ([6], [6]), ([7], [7]), ([3, 8], [3, 8])])
def impl_CountShortest.B23 : List Nat := [0, 0, 3, 7, 0, 0, 48, 112, 240, 511]
theorem impl_CountShortest.tab23 : rtab .any (opsOf Try.f7 23) = impl_CountShortest.T23 := by kernel_rfl
theorem impl_CountShortest.bits23 : waitsOk impl_CountShortest.T23.2 impl_CountShortest.B23 = true := by kernel_rfl
def impl_CountShortest.T24 : Bool × List (List Nat × List Nat) := (true, [([], []), ([], []), ([], []), ([], []), ([2, 3], [2, 3]), ([4], [4]), ([], []), ([], []), ([6, 7], [6, 7]), ([8], [8]), ([5, 9], [5, 9]), ([10], [10]), ([0, 1, 0, 1, 2, 3, 4, 5, 6, 7, 8, 9, 10, 11], [0, 1]), ([12, 11, 0, 1, 2, 3, 4, 5, 6, 7, 8, 9, 10, 11], [11, 12])])
def impl_CountShortest.B24 : List Nat := [0, 0, 0, 0, 12, 28, 0, 0, 192, 448, 1020, 2044, 4095, 8191]
theorem impl_CountShortest.tab24 : rtab .any (opsOf Try.f7 24) = impl_CountShortest.T24 := by kernel_rfl
theorem impl_CountShortest.bits24 : waitsOk impl_CountShortest.T24.2 impl_CountShortest.B24 = true := by kernel_rfl
section
variable {ops : Array Oper} {rest : List Oper} {o : Oper} {a : Act} {Q : Exit → Act → World → Prop} {W : World}
/-- A store into a variable's block of one cell. -/
theorem box_store {g t : Nat} {v0 : Value} (ty : TypeId) (p : Tmp) (x : Operand) (v : Value) (hb : W.heap[g]? = some (.cells #[v0] t (0, 0))) (ho : o.op = .store ty (.tmp p) x) (hN : o.dst = none) (hgd : o.guard = none) (haddr : a.eval (.tmp p) = .pointer (some ⟨g, 0, none⟩)) (hx : a.eval x = v)
    (hvc : v.cells.toList = [v]) (hv1 : v.oneCell' = true) (hti : (Try.prog.info? ty).map (·.size) = some 1)
    (h : ∀ w1, w1.heap[g]? = some (.cells #[v] t (0, 0)) → KeepBut W w1 g none → (∀ (w0 : World), w0.heap.size ≤ g → Below w0.heap.size w0 W → Below w0.heap.size w0 w1) → wpList Try.prog ops Q rest a w1) : wpList Try.prog ops Q (o :: rest) a W := by
  have hrun := run_store_run (P := Try.prog) (o := 0) ty v [v] hb hvc hti (by simp) (fun q hq => by rw [List.mem_singleton.1 hq]; exact hv1)
  have e : W.setCells g 0 [v] = W.setCell ⟨g, 0, none⟩ v := rfl
  rw [e] at hrun
  refine store_event hgd ho hN (w1 := W.setCell ⟨g, 0, none⟩ v) ?_ ?_
  · simp [execOp, ho, haddr, hx, hrun]
  · rintro w' rfl
    exact h _ (blk_put hb 0 v rfl) (KeepBut.set_ (KeepBut.refl _ _ _) _ _) (fun w0 hg hB => below_set hB hg)
end
set_option maxHeartbeats 8000000 in
set_option maxRecDepth 100000 in
theorem impl_CountShortest.calls (k : Nat) (A0_0 : Option Addr) (c0_0 : Nat) (l0_0 : List (List Int)) (A0_1 : Option Addr) (c0_1 : Nat) (l0_1 : List (S50)) (a1 : Int) (a2 : Int) (r1 : Int) (r2 : Bool) (w : World) (hr0_0 : Kd.C (Kd.slice 3 (Kd.int .i64)) w A0_0 l0_0.length l0_0) (hc0_0 : l0_0.length ≤ c0_0) (hr0_1 : Kd.C k50 w A0_1 l0_1.length l0_1) (hc0_1 : l0_1.length ≤ c0_1) (h : impl_CountShortest.f k l0_0 l0_1 a1 a2 = some (r1, r2)) :
 Calls Try.prog 7 #[.agg #[.slice A0_0 l0_0.length c0_0, .slice A0_1 l0_1.length c0_1], .int .i64 a1, .int .i64 a2] w fun e w' => e = .returned (.tuple #[.int .i64 r1, .bool r2]) ∧ Below w.heap.size w w' := by
 have hu29 := Try.underlying29
 have HR0_0 := Aside0.mk hr0_0
 have HC0_0 := Aside0.mk hc0_0
 clear hr0_0 hc0_0
 have HR0_1 := Aside0.mk hr0_1
 have HC0_1 := Aside0.mk hc0_1
 clear hr0_1 hc0_1
 have HB := zM (Below.refl w.heap.size w)
 have H : ((impl_IsSpace.f k l0_0 l0_1).bind fun t273 => (if t273 = true then ((impl_Space_isPlace.f l0_0 l0_1 a1).bind fun t274 => (if t274 = true then ((impl_Space_isPlace.f l0_0 l0_1 a2).bind fun t275 => (impl_CountShortest.j0 k a1 a2 (!t275) l0_0 l0_1)) else (impl_CountShortest.j0 k a1 a2 true l0_0 l0_1))) else (impl_CountShortest.j0 k a1 a2 true l0_0 l0_1))) = some (r1, r2) := h
 clear h
 have HC4 := Aside0.mk H
 clear H
 go_enter Try.func7, Try.ntmps7
 go_upto_region 1 with (first | ((with_reducible refine gate_dst (N := 3) rfl ?_); refine zb (w := w) 3 #[.slice A0_0 l0_0.length c0_0, .slice A0_1 l0_1.length c0_1] 29 zB ?_; clear HB; intro gb272 w5 HB BK272 GW272; have GE272 := GW272))
 (try simp only [Act.put, List.setIfInBounds_toArray, List.set_cons_zero, List.set_cons_succ])
 go_cut [32] (fun v32 wc => ∃ (kq : Nat) (x32_3 : Bool), v32 = .bool x32_3 ∧ Aside0 (impl_CountShortest.j0 kq a1 a2 x32_3 l0_0 l0_1 = some (r1, r2)) ∧ Aside0 (kq ≤ k) ∧ Aside0 (wc.heap[gb272]? = some (.cells #[(.slice A0_0 l0_0.length c0_0), (.slice A0_1 l0_1.length c0_1)] 29 (0, 0))) ∧ Aside0 (Below w.heap.size w wc))
 case first =>
  have H := HC4.out
  clear HC4
  replace H := Option.bind_eq_some_iff.mp H
  obtain ⟨t273, A60, H⟩ := H
  replace H : (if t273 = true then ((impl_Space_isPlace.f l0_0 l0_1 a1).bind fun t274 => (if t274 = true then ((impl_Space_isPlace.f l0_0 l0_1 a2).bind fun t275 => (impl_CountShortest.j0 k a1 a2 (!t275) l0_0 l0_1)) else (impl_CountShortest.j0 k a1 a2 true l0_0 l0_1))) else (impl_CountShortest.j0 k a1 a2 true l0_0 l0_1)) = some (r1, r2) := H
  have A6 := Aside0.mk A60
  clear A60
  by_cases c7 : t273 = true
  · subst c7
    have H1 : ((impl_Space_isPlace.f l0_0 l0_1 a1).bind fun t274 => (if t274 = true then ((impl_Space_isPlace.f l0_0 l0_1 a2).bind fun t275 => (impl_CountShortest.j0 k a1 a2 (!t275) l0_0 l0_1)) else (impl_CountShortest.j0 k a1 a2 true l0_0 l0_1))) = some (r1, r2) := by rw [if_pos rfl] at H; exact H
    clear H
    have H := H1
    clear H1
    replace H := Option.bind_eq_some_iff.mp H
    obtain ⟨t274, A80, H⟩ := H
    replace H : (if t274 = true then ((impl_Space_isPlace.f l0_0 l0_1 a2).bind fun t275 => (impl_CountShortest.j0 k a1 a2 (!t275) l0_0 l0_1)) else (impl_CountShortest.j0 k a1 a2 true l0_0 l0_1)) = some (r1, r2) := H
    have A8 := Aside0.mk A80
    clear A80
    by_cases c9 : t274 = true
    · subst c9
      have H1 : ((impl_Space_isPlace.f l0_0 l0_1 a2).bind fun t275 => (impl_CountShortest.j0 k a1 a2 (!t275) l0_0 l0_1)) = some (r1, r2) := by rw [if_pos rfl] at H; exact H
      clear H
      have H := H1
      clear H1
      replace H := Option.bind_eq_some_iff.mp H
      obtain ⟨t275, A100, H⟩ := H
      replace H : (impl_CountShortest.j0 k a1 a2 (!t275) l0_0 l0_1) = some (r1, r2) := H
      have A10 := Aside0.mk A100
      clear A100
      have H' := Aside0.mk H
      clear H
      have hcz11_0 := zy BK272 0
      have hcz11_1 := zy BK272 1
      have hfz11_0 := blk_frozen BK272.out 0
      have hfz11_1 := blk_frozen BK272.out 1
      go_wp2_with (first | ((with_reducible refine gate_callee (f := 17) rfl ?_); refine zc 19 Try.func17 #[.agg #[.slice A0_0 l0_0.length c0_0, .slice A0_1 l0_1.length c0_1]] ?_; (with_reducible refine (impl_IsSpace.calls k _ _ l0_0 _ _ l0_1 true _ ?side1 ?side2 ?side3 ?side4 A6.out).mono ?_); (case side1 => exact zC (Kd.C_below HR0_0.out HB.out)); (case side2 => exact HC0_0.out); (case side3 => exact zC (Kd.C_below HR0_1.out HB.out)); (case side4 => exact HC0_1.out); rintro e w12 ⟨rfl, hb⟩; refine ⟨_, rfl, ?_⟩; replace BK272 := zM (blk_below (g := gb272) (o := .cells #[.slice A0_0 l0_0.length c0_0, .slice A0_1 l0_1.length c0_1] 29 (0, 0)) (zK BK272.out) hb); replace HB := zM (below_step zB hb); (try clear hb); (try clear hb2); (try clear hk); (try clear hi); have hcz13_0 := zy BK272 0; have hcz13_1 := zy BK272 1; have hfz13_0 := blk_frozen BK272.out 0; have hfz13_1 := blk_frozen BK272.out 1) | (go_at_call 18; (with_reducible refine (impl_Space_isPlace.calls _ _ l0_0 _ _ l0_1 a1 true _ ?side1 ?side2 ?side3 ?side4 A8.out).mono ?_); (case side1 => exact zC (Kd.C_below HR0_0.out HB.out)); (case side2 => exact HC0_0.out); (case side3 => exact zC (Kd.C_below HR0_1.out HB.out)); (case side4 => exact HC0_1.out); rintro e w14 ⟨rfl, hb⟩; replace BK272 := zM (blk_below (g := gb272) (o := .cells #[.slice A0_0 l0_0.length c0_0, .slice A0_1 l0_1.length c0_1] 29 (0, 0)) (zK BK272.out) hb); replace HB := zM (below_step zB hb); (try clear hb); (try clear hb2); (try clear hk); (try clear hi); have hcz15_0 := zy BK272 0; have hcz15_1 := zy BK272 1; have hfz15_0 := blk_frozen BK272.out 0; have hfz15_1 := blk_frozen BK272.out 1) | (go_at_call 18; (with_reducible refine (impl_Space_isPlace.calls _ _ l0_0 _ _ l0_1 a2 t275 _ ?side1 ?side2 ?side3 ?side4 A10.out).mono ?_); (case side1 => exact zC (Kd.C_below HR0_0.out HB.out)); (case side2 => exact HC0_0.out); (case side3 => exact zC (Kd.C_below HR0_1.out HB.out)); (case side4 => exact HC0_1.out); rintro e w16 ⟨rfl, hb⟩; replace BK272 := zM (blk_below (g := gb272) (o := .cells #[.slice A0_0 l0_0.length c0_0, .slice A0_1 l0_1.length c0_1] 29 (0, 0)) (zK BK272.out) hb); replace HB := zM (below_step zB hb); (try clear hb); (try clear hb2); (try clear hk); (try clear hi)))
      go_meet
      case rel => exact ⟨_, (!t275), (by first | rfl | (simp; done) | (simp [*]; done)), H', ⟨by first | omega | exact Nat.le_refl _⟩, ⟨zK BK272.out⟩, ⟨zB⟩⟩
    · replace c9 := Bool.eq_false_iff.mpr c9
      subst c9
      have H1 : (impl_CountShortest.j0 k a1 a2 true l0_0 l0_1) = some (r1, r2) := by rw [if_neg (show ¬ (false = true) by decide)] at H; exact H
      clear H
      have H := H1
      clear H1
      have H' := Aside0.mk H
      clear H
      have hcz17_0 := zy BK272 0
      have hcz17_1 := zy BK272 1
      have hfz17_0 := blk_frozen BK272.out 0
      have hfz17_1 := blk_frozen BK272.out 1
      go_wp2_with (first | ((with_reducible refine gate_callee (f := 17) rfl ?_); refine zc 19 Try.func17 #[.agg #[.slice A0_0 l0_0.length c0_0, .slice A0_1 l0_1.length c0_1]] ?_; (with_reducible refine (impl_IsSpace.calls k _ _ l0_0 _ _ l0_1 true _ ?side1 ?side2 ?side3 ?side4 A6.out).mono ?_); (case side1 => exact zC (Kd.C_below HR0_0.out HB.out)); (case side2 => exact HC0_0.out); (case side3 => exact zC (Kd.C_below HR0_1.out HB.out)); (case side4 => exact HC0_1.out); rintro e w18 ⟨rfl, hb⟩; refine ⟨_, rfl, ?_⟩; replace BK272 := zM (blk_below (g := gb272) (o := .cells #[.slice A0_0 l0_0.length c0_0, .slice A0_1 l0_1.length c0_1] 29 (0, 0)) (zK BK272.out) hb); replace HB := zM (below_step zB hb); (try clear hb); (try clear hb2); (try clear hk); (try clear hi); have hcz19_0 := zy BK272 0; have hcz19_1 := zy BK272 1; have hfz19_0 := blk_frozen BK272.out 0; have hfz19_1 := blk_frozen BK272.out 1) | (go_at_call 18; (with_reducible refine (impl_Space_isPlace.calls _ _ l0_0 _ _ l0_1 a1 false _ ?side1 ?side2 ?side3 ?side4 A8.out).mono ?_); (case side1 => exact zC (Kd.C_below HR0_0.out HB.out)); (case side2 => exact HC0_0.out); (case side3 => exact zC (Kd.C_below HR0_1.out HB.out)); (case side4 => exact HC0_1.out); rintro e w20 ⟨rfl, hb⟩; replace BK272 := zM (blk_below (g := gb272) (o := .cells #[.slice A0_0 l0_0.length c0_0, .slice A0_1 l0_1.length c0_1] 29 (0, 0)) (zK BK272.out) hb); replace HB := zM (below_step zB hb); (try clear hb); (try clear hb2); (try clear hk); (try clear hi)))
      go_meet
      case rel => exact ⟨_, (true), (by first | rfl | (simp; done) | (simp [*]; done)), H', ⟨by first | omega | exact Nat.le_refl _⟩, ⟨zK BK272.out⟩, ⟨zB⟩⟩
  · replace c7 := Bool.eq_false_iff.mpr c7
    subst c7
    have H1 : (impl_CountShortest.j0 k a1 a2 true l0_0 l0_1) = some (r1, r2) := by rw [if_neg (show ¬ (false = true) by decide)] at H; exact H
    clear H
    have H := H1
    clear H1
    have H' := Aside0.mk H
    clear H
    have hcz21_0 := zy BK272 0
    have hcz21_1 := zy BK272 1
    have hfz21_0 := blk_frozen BK272.out 0
    have hfz21_1 := blk_frozen BK272.out 1
    go_wp2_with (first | ((with_reducible refine gate_callee (f := 17) rfl ?_); refine zc 19 Try.func17 #[.agg #[.slice A0_0 l0_0.length c0_0, .slice A0_1 l0_1.length c0_1]] ?_; (with_reducible refine (impl_IsSpace.calls k _ _ l0_0 _ _ l0_1 false _ ?side1 ?side2 ?side3 ?side4 A6.out).mono ?_); (case side1 => exact zC (Kd.C_below HR0_0.out HB.out)); (case side2 => exact HC0_0.out); (case side3 => exact zC (Kd.C_below HR0_1.out HB.out)); (case side4 => exact HC0_1.out); rintro e w22 ⟨rfl, hb⟩; refine ⟨_, rfl, ?_⟩; replace BK272 := zM (blk_below (g := gb272) (o := .cells #[.slice A0_0 l0_0.length c0_0, .slice A0_1 l0_1.length c0_1] 29 (0, 0)) (zK BK272.out) hb); replace HB := zM (below_step zB hb); (try clear hb); (try clear hb2); (try clear hk); (try clear hi)))
    go_meet
    case rel => exact ⟨_, (true), (by first | rfl | (simp; done) | (simp [*]; done)), H', ⟨by first | omega | exact Nat.le_refl _⟩, ⟨zK BK272.out⟩, ⟨zB⟩⟩
 case rest =>
  clear HC4
  try clear c1
  try clear p2
  try clear c7
  try clear c9
  try clear c17
  try clear hcz11_0
  try clear hcz11_1
  try clear hcz13_0
  try clear hcz13_1
  try clear hcz15_0
  try clear hcz15_1
  try clear hcz17_0
  try clear hcz17_1
  try clear hcz19_0
  try clear hcz19_1
  try clear hcz21_0
  try clear hcz21_1
  try clear hfz11_0
  try clear hfz11_1
  try clear hfz13_0
  try clear hfz13_1
  try clear hfz15_0
  try clear hfz15_1
  try clear hfz17_0
  try clear hfz17_1
  try clear hfz19_0
  try clear hfz19_1
  try clear hfz21_0
  try clear hfz21_1
  obtain ⟨kq, x32_3, rfl, HA, HJ3, BK272, HB⟩ := hcut
  cases kq with
  | zero => exact absurd HA.out (by simp [impl_CountShortest.j0])
  | succ kj3 =>
   have H := HA.out
   clear HA
   simp only [impl_CountShortest.j0] at H
   by_cases c23 : x32_3 = true
   · subst c23
     have H1 : (some (0, false)) = some (r1, r2) := by rw [if_pos rfl] at H; exact H
     clear H
     have H := H1
     clear H1
     simp only [Option.some.injEq, Prod.mk.injEq] at H
     obtain ⟨rfl, rfl⟩ := H
     go_wp2
     go_ret2
     exact ⟨by first | rfl | (simp [errW_none, errW_some] <;> rfl) | (simp [*, errW_none, errW_some] <;> rfl), zB⟩
   · replace c23 := Bool.eq_false_iff.mpr c23
     subst c23
     have H1 : ((impl_Space_roads.f kj3 l0_0 l0_1).bind fun t276 => ((impl_spread.f kj3 t276 a1).bind fun t279 => (if 0 ≤ a2 then (if a2 < (t279.length : Int) then (if (rd t279 a2) < 0 then (some (0, false)) else (impl_CountShortest.l0 kj3 a1 a2 t276 t279 (([] : List Int)) t279 (t279.length : Int) 0 l0_0 l0_1)) else (none)) else (none)))) = some (r1, r2) := by rw [if_neg (show ¬ (false = true) by decide)] at H; exact H
     clear H
     have H := H1
     clear H1
     replace H := Option.bind_eq_some_iff.mp H
     obtain ⟨t276, A240, H⟩ := H
     replace H : ((impl_spread.f kj3 t276 a1).bind fun t279 => (if 0 ≤ a2 then (if a2 < (t279.length : Int) then (if (rd t279 a2) < 0 then (some (0, false)) else (impl_CountShortest.l0 kj3 a1 a2 t276 t279 (([] : List Int)) t279 (t279.length : Int) 0 l0_0 l0_1)) else (none)) else (none))) = some (r1, r2) := H
     have A24 := Aside0.mk A240
     clear A240
     replace H := Option.bind_eq_some_iff.mp H
     obtain ⟨t279, A250, H⟩ := H
     replace H : (if 0 ≤ a2 then (if a2 < (t279.length : Int) then (if (rd t279 a2) < 0 then (some (0, false)) else (impl_CountShortest.l0 kj3 a1 a2 t276 t279 (([] : List Int)) t279 (t279.length : Int) 0 l0_0 l0_1)) else (none)) else (none)) = some (r1, r2) := H
     have A25 := Aside0.mk A250
     clear A250
     by_cases c26 : 0 ≤ a2
     · rw [if_pos c26] at H
       have c26b0 := decide_eq_true c26
       clear c26
       by_cases c27 : a2 < (t279.length : Int)
       · rw [if_pos c27] at H
         have c27b0 := decide_eq_true c27
         clear c27
         by_cases c28 : (rd t279 a2) < 0
         · rw [if_pos c28] at H
           have c28b0 := decide_eq_true c28
           clear c28
           simp only [Option.some.injEq, Prod.mk.injEq] at H
           obtain ⟨rfl, rfl⟩ := H
           have hcz29_0 := zy BK272 0
           have hcz29_1 := zy BK272 1
           have hfz29_0 := blk_frozen BK272.out 0
           have hfz29_1 := blk_frozen BK272.out 1
           go_wp2_with (first | ((with_reducible refine gate_callee (f := 19) rfl ?_); refine zc 34 Try.func19 #[.agg #[.slice A0_0 l0_0.length c0_0, .slice A0_1 l0_1.length c0_1]] ?_; (with_reducible refine (impl_Space_roads.calls kj3 _ _ l0_0 _ _ l0_1 t276 _ ?side1 ?side2 ?side3 ?side4 A24.out).mono ?_); (case side1 => exact zC (Kd.C_below HR0_0.out HB.out)); (case side2 => exact HC0_0.out); (case side3 => exact zC (Kd.C_below HR0_1.out HB.out)); (case side4 => exact HC0_1.out); rintro e w30 ⟨v277, rfl, ho0, hb⟩; refine ⟨_, rfl, ?_⟩; have HO278 := zM (Kd.S_lower ho0 (below_size zB)); replace BK272 := zM (blk_below (g := gb272) (o := .cells #[.slice A0_0 l0_0.length c0_0, .slice A0_1 l0_1.length c0_1] 29 (0, 0)) (zK BK272.out) hb); replace HB := zM (below_step zB hb); (try clear hb); (try clear hb2); (try clear hk); (try clear hi); (try clear ho0); obtain ⟨Ao31, co31, eo31⟩ := Kd.S_slice HO278.out; subst eo31) | ((with_reducible refine gate_callee (f := 20) rfl ?_); refine zc 37 Try.func20 #[.slice Ao31 t276.length co31, .int .i64 a1] ?_; (with_reducible refine (impl_spread.calls kj3 _ _ t276 a1 t279 _ ?side1 ?side2 A25.out).mono ?_); (case side1 => exact zC (Kd.S_reads' HO278.out).2.2); (case side2 => exact (Kd.S_reads' HO278.out).2.1); rintro e w32 ⟨v280, rfl, ho0, hb⟩; refine ⟨_, rfl, ?_⟩; replace HO278 := zM (Kd.S_elder' (by (with_reducible repeat (first | apply Kd.S_alloc | apply Kd.S_drewN | apply Kd.S_drew)); exact HO278.out) (Kd.R_base ho0) hb); have HO281 := zM (Kd.R_lower ho0 (below_size zB)); replace BK272 := zM (blk_below (g := gb272) (o := .cells #[.slice A0_0 l0_0.length c0_0, .slice A0_1 l0_1.length c0_1] 29 (0, 0)) (zK BK272.out) hb); replace HB := zM (below_step zB hb); (try clear hb); (try clear hb2); (try clear hk); (try clear hi); (try clear ho0); obtain ⟨Ao33, co33, eo33⟩ := Kd.R_slice HO281.out; subst eo33; have p282 : 0 ≤ (a2 : Int) := of_decide_eq_true zA; have q282 : a2 < (t279.length : Int) := of_decide_eq_true zA; obtain ⟨ad282, e282, hx282_0⟩ := Kd.at_int (Kd.R_reads' HO281.out).2.2 a2 p282 q282; cases e282; replace p282 := eq_true p282; replace q282 := eq_true q282) | ((with_reducible refine gate_dst (N := 9) rfl ?_); refine ze 9 #[.slice none 0 0] 37 ?_; intro gF hgF wF hbox hb; have BKF := zM hbox; have HGF := zM (show w.heap.size ≤ gF by rw [hgF]; exact below_size zB); have HGB := zM (show gb272 ≠ gF by have := blk_lt (zK BK272.out); omega); replace HO278 := zM (Kd.S_mono (ok' := _) (Kd.S_old (by (with_reducible repeat (first | apply Kd.S_alloc | apply Kd.S_drewN | apply Kd.S_drew)); exact HO278.out) hb) (fun _ hk => hk)); replace HO281 := zM (Kd.R_old (zR HO281.out) hb); have HSF := zM (show _ ≤ gF from Nat.le_of_eq hgF.symm); replace BK272 := zM (blk_below (g := gb272) (o := .cells #[.slice A0_0 l0_0.length c0_0, .slice A0_1 l0_1.length c0_1] 29 (0, 0)) (zK BK272.out) hb); replace HB := zM (below_step zB hb); clear hgF hbox hb) | ((with_reducible refine gate_ (.store 37 (.tmp 9) (.tmp 37)) rfl ?_); refine box_store 37 9 (.tmp 37) (.slice (some ad282) t279.length co33) BKF.out rfl rfl rfl rfl rfl rfl rfl (by kernel_rfl) ?_; intro wG hxF hkF hbl; replace BKF := zM hxF; replace BK272 := zM ((hkF.2 gb272 (blk_lt BK272.out) HGB.out (by simp)).trans BK272.out); replace HO278 := zM (Kd.S_mono (Kd.S_keep HO278.out hkF (fun k_ hk => by have := HSF.out; omega)) (fun _ hk => hk.1)); replace HO281 := zM (Kd.R_mono (Kd.R_keep HO281.out hkF (fun k_ hk => by have := HSF.out; omega)) (fun _ hk => hk.1)); replace HB := zM (hbl _ HGF.out HB.out); clear hxF hkF hbl; have hcF := zy BKF 0; clear hx282_0; obtain ⟨ad_, e_, hx282_0⟩ := Kd.at_int (Kd.R_reads' HO281.out).2.2 a2 (of_eq_true p282) (of_eq_true q282); obtain rfl : ad282 = ad_ := (by injection e_)))
           go_ret2
           exact ⟨by first | rfl | (simp [errW_none, errW_some] <;> rfl) | (simp [*, errW_none, errW_some] <;> rfl), zB⟩
         · rw [if_neg c28] at H
           have c28b0 : decide ((rd t279 a2) < 0) = false := decide_eq_false c28
           clear c28
           obtain ⟨y283, hy283⟩ : ∃ y_ : List Int, y_ = (([] : List Int)) := ⟨_, rfl⟩
           replace H : (impl_CountShortest.l0 kj3 a1 a2 t276 t279 y283 t279 (t279.length : Int) 0 l0_0 l0_1) = some (r1, r2) := by first | (rw [hy283]; with_reducible exact H) | (have H2_ := (Option.bind_some _ _).symm.trans H; rw [hy283]; with_reducible exact H2_) | (have H2_ := (Option.bind_some _ _).symm.trans H; with_reducible exact H2_) | with_reducible exact H | (rw [hy283]; exact H) | exact H
           have Ny283 := Aside0.mk hy283
           clear hy283
           have H' := Aside0.mk H
           clear H
           have hcz34_0 := zy BK272 0
           have hcz34_1 := zy BK272 1
           have hfz34_0 := blk_frozen BK272.out 0
           have hfz34_1 := blk_frozen BK272.out 1
           go_wp2_with (first | ((with_reducible refine gate_callee (f := 19) rfl ?_); refine zc 34 Try.func19 #[.agg #[.slice A0_0 l0_0.length c0_0, .slice A0_1 l0_1.length c0_1]] ?_; (with_reducible refine (impl_Space_roads.calls kj3 _ _ l0_0 _ _ l0_1 t276 _ ?side1 ?side2 ?side3 ?side4 A24.out).mono ?_); (case side1 => exact zC (Kd.C_below HR0_0.out HB.out)); (case side2 => exact HC0_0.out); (case side3 => exact zC (Kd.C_below HR0_1.out HB.out)); (case side4 => exact HC0_1.out); rintro e w35 ⟨v277, rfl, ho0, hb⟩; refine ⟨_, rfl, ?_⟩; have HO278 := zM (Kd.S_lower ho0 (below_size zB)); replace BK272 := zM (blk_below (g := gb272) (o := .cells #[.slice A0_0 l0_0.length c0_0, .slice A0_1 l0_1.length c0_1] 29 (0, 0)) (zK BK272.out) hb); replace HB := zM (below_step zB hb); (try clear hb); (try clear hb2); (try clear hk); (try clear hi); (try clear ho0); obtain ⟨Ao36, co36, eo36⟩ := Kd.S_slice HO278.out; subst eo36) | ((with_reducible refine gate_callee (f := 20) rfl ?_); refine zc 37 Try.func20 #[.slice Ao36 t276.length co36, .int .i64 a1] ?_; (with_reducible refine (impl_spread.calls kj3 _ _ t276 a1 t279 _ ?side1 ?side2 A25.out).mono ?_); (case side1 => exact zC (Kd.S_reads' HO278.out).2.2); (case side2 => exact (Kd.S_reads' HO278.out).2.1); rintro e w37 ⟨v280, rfl, ho0, hb⟩; refine ⟨_, rfl, ?_⟩; replace HO278 := zM (Kd.S_elder' (by (with_reducible repeat (first | apply Kd.S_alloc | apply Kd.S_drewN | apply Kd.S_drew)); exact HO278.out) (Kd.R_base ho0) hb); have HO281 := zM (Kd.R_lower ho0 (below_size zB)); replace BK272 := zM (blk_below (g := gb272) (o := .cells #[.slice A0_0 l0_0.length c0_0, .slice A0_1 l0_1.length c0_1] 29 (0, 0)) (zK BK272.out) hb); replace HB := zM (below_step zB hb); (try clear hb); (try clear hb2); (try clear hk); (try clear hi); (try clear ho0); obtain ⟨Ao38, co38, eo38⟩ := Kd.R_slice HO281.out; subst eo38; have p282 : 0 ≤ (a2 : Int) := of_decide_eq_true zA; have q282 : a2 < (t279.length : Int) := of_decide_eq_true zA; obtain ⟨ad282, e282, hx282_0⟩ := Kd.at_int (Kd.R_reads' HO281.out).2.2 a2 p282 q282; cases e282; replace p282 := eq_true p282; replace q282 := eq_true q282) | ((with_reducible refine gate_dst (N := 9) rfl ?_); refine ze 9 #[.slice none 0 0] 37 ?_; intro gF hgF wF hbox hb; have BKF := zM hbox; have HGF := zM (show w.heap.size ≤ gF by rw [hgF]; exact below_size zB); have HGB := zM (show gb272 ≠ gF by have := blk_lt (zK BK272.out); omega); replace HO278 := zM (Kd.S_mono (ok' := _) (Kd.S_old (by (with_reducible repeat (first | apply Kd.S_alloc | apply Kd.S_drewN | apply Kd.S_drew)); exact HO278.out) hb) (fun _ hk => hk)); replace HO281 := zM (Kd.R_old (zR HO281.out) hb); have HSF := zM (show _ ≤ gF from Nat.le_of_eq hgF.symm); replace BK272 := zM (blk_below (g := gb272) (o := .cells #[.slice A0_0 l0_0.length c0_0, .slice A0_1 l0_1.length c0_1] 29 (0, 0)) (zK BK272.out) hb); replace HB := zM (below_step zB hb); clear hgF hbox hb) | ((with_reducible refine gate_ (.store 37 (.tmp 9) (.tmp 37)) rfl ?_); refine box_store 37 9 (.tmp 37) (.slice (some ad282) t279.length co38) BKF.out rfl rfl rfl rfl rfl rfl rfl (by kernel_rfl) ?_; intro wG hxF hkF hbl; replace BKF := zM hxF; replace BK272 := zM ((hkF.2 gb272 (blk_lt BK272.out) HGB.out (by simp)).trans BK272.out); replace HO278 := zM (Kd.S_mono (Kd.S_keep HO278.out hkF (fun k_ hk => by have := HSF.out; omega)) (fun _ hk => hk.1)); replace HO281 := zM (Kd.R_mono (Kd.R_keep HO281.out hkF (fun k_ hk => by have := HSF.out; omega)) (fun _ hk => hk.1)); replace HB := zM (hbl _ HGF.out HB.out); clear hxF hkF hbl; have hcF := zy BKF 0; clear hx282_0; obtain ⟨ad_, e_, hx282_0⟩ := Kd.at_int (Kd.R_reads' HO281.out).2.2 a2 (of_eq_true p282) (of_eq_true q282); obtain rfl : ad282 = ad_ := (by injection e_)) | ((with_reducible refine gate_dst (N := 43) rfl ?_); refine Kd.R_lit (Kd.int .i64) _ 3 ?hg (N := 43) ?hd (xs := ([] : List Int)) (inner := []) (ok := fun _ => True) (okp := fun _ => True) ?hr ?hp (fun _ hk => hk) trivial (Below.refl _ _) (Nat.le_refl _) (by simp) ?_; (case hd => rfl); (case hg => rfl); (case hr => first | (go_simp; done) | (go_simp; rfl)); (case hp => exact (Reps.none _ _)); intro v284 w39 ho40 hb hg_ hnew_; clear hg_ hnew_; (first | rw [← Ny283.out] at ho40 | (simp only [Int.reduceToNat] at ho40; rw [← Ny283.out] at ho40)); replace HO278 := zM (Kd.S_elder' (by (with_reducible repeat (first | apply Kd.S_alloc | apply Kd.S_drewN | apply Kd.S_drew)); exact HO278.out) (Kd.R_base ho40) hb); have HO285 := zM (Kd.R_lower (Kd.R_new' ho40 (Kd.R_lt (zR HO281.out))) (below_size zB)); replace HO281 := zM (Kd.R_elder' (zR HO281.out) (Kd.R_base ho40) hb); replace BK272 := zM (blk_below (g := gb272) (o := .cells #[.slice A0_0 l0_0.length c0_0, .slice A0_1 l0_1.length c0_1] 29 (0, 0)) (zK BK272.out) hb); replace BKF := zM (blk_below (g := gF) (o := .cells #[.slice (some ad282) t279.length co38] 37 (0, 0)) (zK BKF.out) hb); (try clear hcF); have hcF := zy BKF 0; replace HB := zM (below_step zB hb); clear hb ho40))
           go_loopg [10, 46] kj3 (fun kq v10 v46 w' => ∃ (x10_2 : List Int) (x46_2 : Int), v46 = .int .i64 x46_2 ∧ Aside0 (impl_CountShortest.l0 kq a1 a2 t276 t279 x10_2 t279 (t279.length : Int) x46_2 l0_0 l0_1 = some (r1, r2)) ∧ Aside0 (kq ≤ kj3) ∧ Aside0 (Kd.S (Kd.slice 3 (Kd.int .i64)) 37 w' w.heap.size (fun k_ => some k_ ≠ ((.slice (some ad282) t279.length co38) : Value).ownBlock ∧ some k_ ≠ (v10 : Value).ownBlock ∧ some k_ ≠ ((.slice (some ad282) t279.length co38) : Value).ownBlock) (.slice Ao36 t276.length co36) t276) ∧ Aside0 (Kd.R (Kd.int .i64) 3 w' w.heap.size (fun k_ => some k_ ≠ (v10 : Value).ownBlock) (.slice (some ad282) t279.length co38) t279) ∧ Aside0 (Kd.R (Kd.int .i64) 3 w' w.heap.size (fun k_ => some k_ ≠ ((.slice (some ad282) t279.length co38) : Value).ownBlock ∧ some k_ ≠ ((.slice (some ad282) t279.length co38) : Value).ownBlock) v10 x10_2) ∧ Aside0 (Kd.R (Kd.int .i64) 3 w' w.heap.size (fun k_ => some k_ ≠ (v10 : Value).ownBlock) (.slice (some ad282) t279.length co38) t279) ∧ Aside0 (w'.heap[gb272]? = some (.cells #[(.slice A0_0 l0_0.length c0_0), (.slice A0_1 l0_1.length c0_1)] 29 (0, 0))) ∧ Aside0 (w'.heap[gF]? = some (.cells #[(.slice (some ad282) t279.length co38)] 37 (0, 0))) ∧ Aside0 (Below w.heap.size w w'))
           case atStart => exact ⟨(y283), (0), (by first | rfl | (simp; done) | (simp [*]; done)), H', ⟨Nat.le_refl _⟩, ⟨by (with_reducible repeat (first | apply Kd.S_alloc | apply Kd.S_drewN | apply Kd.S_drew)); exact Kd.S_mono HO278.out (fun _ hk => ⟨hk.1.2, ⟨hk.2, hk.1.2⟩⟩)⟩, ⟨by (with_reducible repeat (first | apply Kd.R_alloc | apply Kd.R_drewN | apply Kd.R_drew)); exact Kd.R_mono HO281.out (fun _ hk => hk.2)⟩, ⟨by (with_reducible repeat (first | apply Kd.R_alloc | apply Kd.R_drewN | apply Kd.R_drew)); exact Kd.R_mono HO285.out (fun _ hk => ⟨hk.2, hk.2⟩)⟩, ⟨by (with_reducible repeat (first | apply Kd.R_alloc | apply Kd.R_drewN | apply Kd.R_drew)); exact Kd.R_mono HO281.out (fun _ hk => hk.2)⟩, ⟨zK BK272.out⟩, ⟨zK BKF.out⟩, ⟨zB⟩⟩
           case round =>
            clear H'
            try clear c1
            try clear c2
            try clear p2
            try clear q2
            try clear hx2
            try clear c7
            try clear c9
            try clear c17
            try clear c19
            try clear c20
            try clear c23
            try clear c26
            try clear c26b0
            try clear c27
            try clear c27b0
            try clear c28
            try clear c28b0
            try clear p28
            try clear q28
            try clear hx28
            try clear hcz11_0
            try clear hcz11_1
            try clear hcz13_0
            try clear hcz13_1
            try clear hcz15_0
            try clear hcz15_1
            try clear hcz17_0
            try clear hcz17_1
            try clear hcz19_0
            try clear hcz19_1
            try clear hcz21_0
            try clear hcz21_1
            try clear hcz29_0
            try clear hcz29_1
            try clear hcz34_0
            try clear hcz34_1
            try clear hfz11_0
            try clear hfz11_1
            try clear hfz13_0
            try clear hfz13_1
            try clear hfz15_0
            try clear hfz15_1
            try clear hfz17_0
            try clear hfz17_1
            try clear hfz19_0
            try clear hfz19_1
            try clear hfz21_0
            try clear hfz21_1
            try clear hfz29_0
            try clear hfz29_1
            try clear hfz34_0
            try clear hfz34_1
            try clear hx282_0
            try clear p2
            try clear p282
            try clear q282
            obtain ⟨x10_2, x46_2, rfl, HA, HK2, HO_8, HO_9, HO_10, HO_44, BK272, BKF, HB⟩ := hrel
            cases gk with
            | zero => exact absurd HA.out (by simp [impl_CountShortest.l0])
            | succ k2 =>
             have H := HA.out
             clear HA
             simp only [impl_CountShortest.l0] at H
             by_cases c41 : x46_2 < (t279.length : Int)
             · rw [if_pos c41] at H
               have c41b0 := decide_eq_true c41
               clear c41
               by_cases c42 : 0 ≤ x46_2
               · rw [if_pos c42] at H
                 have c42b0 := decide_eq_true c42
                 clear c42
                 by_cases c43 : x46_2 < (t279.length : Int)
                 · rw [if_pos c43] at H
                   have c43b0 := decide_eq_true c43
                   clear c43
                   by_cases c44 : (rd t279 x46_2) ≥ 0
                   · rw [if_pos c44] at H
                     have c44b0 : decide (0 ≤ (rd t279 x46_2)) = true := decide_eq_true c44
                     clear c44
                     by_cases c45 : x10_2.length < 17592186044416
                     · rw [if_pos c45] at H
                       have LMc45 := Aside0.mk c45
                       clear c45
                       obtain ⟨y287, hy287⟩ : ∃ y_ : List Int, y_ = (x10_2 ++ [x46_2]) := ⟨_, rfl⟩
                       replace H : (impl_CountShortest.l0 k2 a1 a2 t276 t279 y287 t279 (t279.length : Int) (wrap64 (x46_2 + 1)) l0_0 l0_1) = some (r1, r2) := by first | (rw [hy287]; with_reducible exact H) | (have H2_ := (Option.bind_some _ _).symm.trans H; rw [hy287]; with_reducible exact H2_) | (have H2_ := (Option.bind_some _ _).symm.trans H; with_reducible exact H2_) | with_reducible exact H | (rw [hy287]; exact H) | exact H
                       have Ny287 := Aside0.mk hy287
                       clear hy287
                       have H' := Aside0.mk H
                       clear H
                       have p286 : 0 ≤ (x46_2 : Int) := of_decide_eq_true zA
                       have q286 : x46_2 < (t279.length : Int) := of_decide_eq_true zA
                       obtain ⟨ad286, e286, hx286_0⟩ := Kd.at_int (Kd.R_reads' HO_44.out).2.2 x46_2 p286 q286
                       obtain rfl : ad282 = ad286 := (by injection e286)
                       replace p286 := eq_true p286
                       replace q286 := eq_true q286
                       go_wp2_with (first | ((with_reducible refine gate_builtin (b := .append) (xs := #[.tmp 53, .tmp 55]) rfl ?_); at_builtin; refine Kd.R_append (Kd.int .i64) (w0 := w) w.heap.size rfl (.tmp 53) (.tmp 55) 37 3 (.int .i64 0) 8 rfl Try.underlying37 info3 rfl (by decide) (by omega) u10 x10_2 x46_2 [.int .i64 x46_2] (fun k_ => some k_ ≠ (.slice (some ad282) t279.length co38 : Value).ownBlock ∧ some k_ ≠ (.slice (some ad282) t279.length co38 : Value).ownBlock) (fun _ => False) rfl rfl ?aP (fun _ hk => hk.elim) ?aF ?aO ?aB ?aS ?aL ?_; (case aP => exact rfl); (case aB => exact zB); (case aF => exact (fun k_ hk => ⟨Kd.fresh' (Kd.R_lt (zR HO_9.out)) k_ hk, Kd.fresh' (Kd.R_lt (zR HO_44.out)) k_ hk⟩)); (case aO => exact (zR HO_10.out)); (case aS => exact (below_size zB)); (case aL => have := LMc45.out; omega); intro v288 w46 ho hb hg hat; rw [← Ny287.out] at ho; replace HO_8 := zM (Kd.S_after (ok := (fun k_ => some k_ ≠ (.slice (some ad282) t279.length co38 : Value).ownBlock ∧ some k_ ≠ (.slice (some ad282) t279.length co38 : Value).ownBlock)) (by (with_reducible repeat (first | apply Kd.S_alloc | apply Kd.S_drewN | apply Kd.S_drew)); exact Kd.S_mono HO_8.out (fun _ hk => ⟨⟨hk.1, hk.2.2⟩, hk.2.1⟩)) hg hat); replace HO_9 := zM (Kd.R_after (ok := (fun _ => True)) (by (with_reducible repeat (first | apply Kd.R_alloc | apply Kd.R_drewN | apply Kd.R_drew)); exact Kd.R_mono HO_9.out (fun _ hk => ⟨trivial, hk⟩)) hg hat); replace HO_44 := zM (Kd.R_after (ok := (fun _ => True)) (by (with_reducible repeat (first | apply Kd.R_alloc | apply Kd.R_drewN | apply Kd.R_drew)); exact Kd.R_mono HO_44.out (fun _ hk => ⟨trivial, hk⟩)) hg hat); replace BK272 := zM (blk_grown (g := gb272) (o := .cells #[.slice A0_0 l0_0.length c0_0, .slice A0_1 l0_1.length c0_1] 29 (0, 0)) (zK BK272.out) hg (Kd.R_ne HO_10.out BK272.out (by decide))); replace BKF := zM (blk_grown (g := gF) (o := .cells #[.slice (some ad282) t279.length co38] 37 (0, 0)) (zK BKF.out) hg (Kd.R_ne HO_10.out BKF.out (by decide))); (try clear hcF); have hcF := zy BKF 0; replace HB := zM (hb); have HO289 := zM (ho); clear HO_10; clear ho hb hg hat))
                       go_roundg k2
                       case measure => have := HJ3.out; have := HK2.out; omega
                       case rel => exact ⟨(y287), (wrap64 (x46_2 + 1)), (by first | rfl | (simp; done) | (simp [*]; done)), H', ⟨by have := HJ3.out; have := HK2.out; omega⟩, ⟨by (with_reducible repeat (first | apply Kd.S_alloc | apply Kd.S_drewN | apply Kd.S_drew)); exact Kd.S_mono HO_8.out (fun _ hk => ⟨hk.1.1, ⟨hk.2, hk.1.2⟩⟩)⟩, ⟨by (with_reducible repeat (first | apply Kd.R_alloc | apply Kd.R_drewN | apply Kd.R_drew)); exact Kd.R_mono HO_9.out (fun _ hk => hk.2)⟩, ⟨zR HO289.out⟩, ⟨by (with_reducible repeat (first | apply Kd.R_alloc | apply Kd.R_drewN | apply Kd.R_drew)); exact Kd.R_mono HO_44.out (fun _ hk => hk.2)⟩, ⟨zK BK272.out⟩, ⟨zK BKF.out⟩, ⟨zB⟩⟩
                     · rw [if_neg c45] at H
                       exact absurd H (by simp)
                   · rw [if_neg c44] at H
                     have c44b0 : decide (0 ≤ (rd t279 x46_2)) = false := decide_eq_false c44
                     clear c44
                     have H' := Aside0.mk H
                     clear H
                     have p286 : 0 ≤ (x46_2 : Int) := of_decide_eq_true zA
                     have q286 : x46_2 < (t279.length : Int) := of_decide_eq_true zA
                     obtain ⟨ad286, e286, hx286_0⟩ := Kd.at_int (Kd.R_reads' HO_44.out).2.2 x46_2 p286 q286
                     obtain rfl : ad282 = ad286 := (by injection e286)
                     replace p286 := eq_true p286
                     replace q286 := eq_true q286
                     go_wp2
                     go_roundg k2
                     case measure => have := HJ3.out; have := HK2.out; omega
                     case rel => exact ⟨(x10_2), (wrap64 (x46_2 + 1)), (by first | rfl | (simp; done) | (simp [*]; done)), H', ⟨by have := HJ3.out; have := HK2.out; omega⟩, ⟨by (with_reducible repeat (first | apply Kd.S_alloc | apply Kd.S_drewN | apply Kd.S_drew)); exact HO_8.out⟩, ⟨zR HO_9.out⟩, ⟨zR HO_10.out⟩, ⟨zR HO_44.out⟩, ⟨zK BK272.out⟩, ⟨zK BKF.out⟩, ⟨zB⟩⟩
                 · rw [if_neg c43] at H
                   exact absurd H (by simp)
               · rw [if_neg c42] at H
                 exact absurd H (by simp)
             · rw [if_neg c41] at H
               have c41b0 : decide (x46_2 < (t279.length : Int)) = false := decide_eq_false c41
               clear c41
               by_cases c47 : 0 ≤ (l0_0.length : Int)
               · rw [if_pos c47] at H
                 have c47b0 := eq_true c47
                 have c47b1 : decide (0 ≤ (l0_0.length : Int)) = true := decide_eq_true c47
                 clear c47
                 by_cases c48 : ((l0_0.length : Int) : Int).toNat ≤ 35184372088832
                 · rw [if_pos c48] at H
                   have c48b0 := eq_true c48
                   have c48b1 : decide (((l0_0.length : Int) : Int).toNat ≤ 35184372088832) = true := decide_eq_true c48
                   clear c48
                   obtain ⟨y290, hy290⟩ : ∃ y_ : List Int, y_ = (List.replicate ((l0_0.length : Int) : Int).toNat 0) := ⟨_, rfl⟩
                   replace H : (if 0 ≤ a1 then (if a1 < (y290.length : Int) then (anyOrder t279 x10_2 (fun k_ p_ => impl_CountShortest.l1 k_ a2 t276 t279 (y290.set (a1 : Int).toNat 1) p_ (p_.length : Int) 0) (waysN t276 t279 a1 1000000 a2, true)) else (none)) else (none)) = some (r1, r2) := by first | (rw [hy290]; with_reducible exact H) | (have H2_ := (Option.bind_some _ _).symm.trans H; rw [hy290]; with_reducible exact H2_) | (have H2_ := (Option.bind_some _ _).symm.trans H; with_reducible exact H2_) | with_reducible exact H | (rw [hy290]; exact H) | exact H
                   have Ny290 := Aside0.mk hy290
                   clear hy290
                   by_cases c49 : 0 ≤ a1
                   · rw [if_pos c49] at H
                     have c49b0 := decide_eq_true c49
                     clear c49
                     by_cases c50 : a1 < (y290.length : Int)
                     · rw [if_pos c50] at H
                       have c50b0 := decide_eq_true c50
                       clear c50
                       obtain ⟨y293, hy293⟩ : ∃ y_ : List Int, y_ = (y290.set (a1 : Int).toNat 1) := ⟨_, rfl⟩
                       obtain ⟨hlo_, hio_, hall_⟩ := anyOrder_some H
                       have HLO := Aside0.mk hlo_
                       have HIO := Aside0.mk hio_
                       have HALL := Aside0.mk (show ∀ p : List Int, p.Perm x10_2 → p.Pairwise (fun a b => rd t279 a ≤ rd t279 b) → ∃ k, impl_CountShortest.l1 k a2 t276 t279 y293 p (p.length : Int) 0 = some (r1, r2) from by rw [hy293]; exact hall_)
                       clear hlo_ hio_ hall_
                       have Ny293 := Aside0.mk hy293
                       clear hy293
                       clear H
                       have hcz52_0 := zy BK272 0
                       have hcz52_1 := zy BK272 1
                       have hfz52_0 := blk_frozen BK272.out 0
                       have hfz52_1 := blk_frozen BK272.out 1
                       go_wp2_with (first | (go_at_call 21; refine (sortFunc_far gF t279 (some ad282) co38 _ _ w.heap.size u10 x10_2 _ BKF.out HO_9.out (fun _ hk => hk) (Kd.R_ne HO_10.out BKF.out (by decide)) HO_10.out HLO.out HIO.out).mono ?_; rintro e wS ⟨rfl, pS, hpS, hsS, hoS, hg⟩; obtain ⟨kS, hkS⟩ := HALL.out pS hpS hsS; have H' := Aside0.mk hkS; replace HO_8 := zM (Kd.S_grown HO_8.out hg (fun _ hk => hk.2.1)); replace HO_9 := zM (Kd.R_grown HO_9.out hg (fun _ hk => hk)); replace HO_44 := zM (Kd.R_grown HO_44.out hg (fun _ hk => hk)); replace BK272 := zM (blk_grown (g := gb272) (o := .cells #[.slice A0_0 l0_0.length c0_0, .slice A0_1 l0_1.length c0_1] 29 (0, 0)) BK272.out hg (Kd.R_ne HO_10.out BK272.out (by decide))); replace BKF := zM (blk_grown (g := gF) (o := .cells #[.slice (some ad282) t279.length co38] 37 (0, 0)) BKF.out hg (Kd.R_ne HO_10.out BKF.out (by decide))); replace HB := zM (pw_below_grown zB _ (below_size zB) hg (Kd.R_base HO_10.out)); replace HO_10 := zM hoS; clear hkS hpS hsS hoS hg; (try clear hcF); have hcF := zy BKF 0; have hczS_0 := zy BK272 0; have hczS_1 := zy BK272 1; have hfzS_0 := blk_frozen BK272.out 0; have hfzS_1 := blk_frozen BK272.out 1) | ((with_reducible refine gate_dst (N := 64) rfl ?_); refine Kd.R_make (Kd.int .i64) _ 3 rfl (N := 64) rfl 37 _ _ rfl (l0_0.length : Int) rfl rfl Try.underlying37 (.int .i64 0) 8 info3 rfl (by decide) (by omega) 0 (ok := fun _ => True) (okp := fun _ => True) rfl (fun _ hk => hk) trivial (of_decide_eq_true zA) (Nat.le_trans (Nat.mul_le_mul_right _ (of_decide_eq_true zA : (l0_0.length : Int).toNat ≤ 35184372088832)) (by omega)) (Below.refl _ _) (Nat.le_refl _) ?_; intro v291 w53 ho54 hb hg_ hnew_; clear hg_ hnew_; (first | rw [← Ny290.out] at ho54 | (simp only [Int.reduceToNat] at ho54; rw [← Ny290.out] at ho54)); replace HO_8 := zM (Kd.S_elder' (by (with_reducible repeat (first | apply Kd.S_alloc | apply Kd.S_drewN | apply Kd.S_drew)); exact HO_8.out) (Kd.R_base ho54) hb); have HO292 := zM (Kd.R_lower (Kd.R_new' (Kd.R_new' (Kd.R_new' ho54 (Kd.R_lt (zR HO_9.out))) (Kd.R_lt (zR HO_10.out))) (Kd.R_lt (zR HO_44.out))) (below_size zB)); replace HO_9 := zM (Kd.R_elder' (zR HO_9.out) (Kd.R_base ho54) hb); replace HO_10 := zM (Kd.R_elder' (zR HO_10.out) (Kd.R_base ho54) hb); replace HO_44 := zM (Kd.R_elder' (zR HO_44.out) (Kd.R_base ho54) hb); replace BK272 := zM (blk_below (g := gb272) (o := .cells #[.slice A0_0 l0_0.length c0_0, .slice A0_1 l0_1.length c0_1] 29 (0, 0)) (zK BK272.out) hb); replace BKF := zM (blk_below (g := gF) (o := .cells #[.slice (some ad282) t279.length co38] 37 (0, 0)) (zK BKF.out) hb); (try clear hcF); have hcF := zy BKF 0; replace HB := zM (below_step zB hb); clear hb ho54; have p51 : 0 ≤ (a1 : Int) := of_decide_eq_true zA; have q51 : (a1 : Int) < ((y290.length : Int) : Int) := of_decide_eq_true zA; obtain ⟨go51, co51, eo51, gb51, gl51, cl51, HG51⟩ := Kd.R_form HO292.out (by omega); (first | cases eo51 | (injection eo51 with ea_ en_ ec_; (first | subst ea_ | (injection ea_ with ea_; subst ea_)); subst ec_; clear en_)); have GB51 := Aside0.mk gb51; have GG51 := Aside0.mk HG51; clear gb51 gl51 HG51; obtain ⟨hx51_0, hf51_0⟩ := Kd.R_celln 0 HO292.out (a1 : Int) p51 q51; replace p51 := eq_true p51; replace q51 := eq_true q51; have n_ := zM (Kd.R_mono (ok' := (fun k_ => some k_ ≠ (.slice (some ad282) t279.length co38 : Value).ownBlock ∧ some k_ ≠ (u10 : Value).ownBlock ∧ some k_ ≠ (.slice (some ad282) t279.length co38 : Value).ownBlock)) HO292.out (fun k_ hk => ⟨hk.1.1.2, ⟨hk.1.2, hk.2⟩⟩)); clear HO292; have HO292 := n_; clear n_; obtain ⟨hy55_, hz55_⟩ := Kd.R_celln 0 HO292.out (a1 : Int) (of_decide_eq_true zA) (of_decide_eq_true zA); have HP55 := Kd.R_putg HO292.out (a1 : Int) 1) | ((with_reducible refine gate_store (t := 3) (p := 67) rfl ?_); refine store_event (t := 3) (p := 67) (v := ?vo_w56) (w1 := (w53.setCell ⟨go51, (a1 : Int).toNat, none⟩ (.int .i64 1))) ?hg ?ho ?hn ?hr ?_; (case ho => rfl); (case hg => rfl); (case hn => rfl); (case hr => first | (go_simp; done) | (go_simp; rfl)); intro w56 hw; have hg : w53.grownBy w56 (some go51) := (by rw [hw]; exact HP55.2); have hp_ : Kd.R (Kd.int .i64) 3 w56 w.heap.size (fun k_ => some k_ ≠ (.slice (some ad282) t279.length co38 : Value).ownBlock ∧ some k_ ≠ (u10 : Value).ownBlock ∧ some k_ ≠ (.slice (some ad282) t279.length co38 : Value).ownBlock) (.slice (some ⟨go51, 0, none⟩) y290.length co51) y293 := (by rw [hw, Ny293.out]; exact HP55.1); clear HP55; replace HO_8 := zM (Kd.S_after (v := (.slice (some ⟨go51, 0, none⟩) y290.length co51)) (v1 := (.slice (some ⟨go51, 0, none⟩) y290.length co51)) (ok := (fun k_ => some k_ ≠ (.slice (some ad282) t279.length co38 : Value).ownBlock ∧ some k_ ≠ (u10 : Value).ownBlock ∧ some k_ ≠ (.slice (some ad282) t279.length co38 : Value).ownBlock)) (by (with_reducible repeat (first | apply Kd.S_alloc | apply Kd.S_drewN | apply Kd.S_drew)); exact HO_8.out) hg (.inl rfl)); replace HO_9 := zM (Kd.R_after (v := (.slice (some ⟨go51, 0, none⟩) y290.length co51)) (v1 := (.slice (some ⟨go51, 0, none⟩) y290.length co51)) (ok := (fun k_ => some k_ ≠ (u10 : Value).ownBlock)) (zR HO_9.out) hg (.inl rfl)); replace HO_10 := zM (Kd.R_after (v := (.slice (some ⟨go51, 0, none⟩) y290.length co51)) (v1 := (.slice (some ⟨go51, 0, none⟩) y290.length co51)) (ok := (fun k_ => some k_ ≠ (.slice (some ad282) t279.length co38 : Value).ownBlock ∧ some k_ ≠ (.slice (some ad282) t279.length co38 : Value).ownBlock)) (zR HO_10.out) hg (.inl rfl)); replace HO_44 := zM (Kd.R_after (v := (.slice (some ⟨go51, 0, none⟩) y290.length co51)) (v1 := (.slice (some ⟨go51, 0, none⟩) y290.length co51)) (ok := (fun k_ => some k_ ≠ (u10 : Value).ownBlock)) (zR HO_44.out) hg (.inl rfl)); replace BK272 := zM (blk_grown (g := gb272) (o := .cells #[.slice A0_0 l0_0.length c0_0, .slice A0_1 l0_1.length c0_1] 29 (0, 0)) (zK BK272.out) hg (Kd.R_ne HO292.out BK272.out (by decide))); replace BKF := zM (blk_grown (g := gF) (o := .cells #[.slice (some ad282) t279.length co38] 37 (0, 0)) (zK BKF.out) hg (Kd.R_ne HO292.out BKF.out (by decide))); (try clear hcF); have hcF := zy BKF 0; replace HO292 := zM (hp_); replace HB := zM ((by rw [hw]; exact below_set (HB.out) GB51.out : Below w.heap.size w w56)); clear hg hw hp_; obtain ⟨Ao57, co57, eo57⟩ := Kd.R_slice HO_10.out; subst eo57))
                       go_loopg [70] kS (fun kq v70 w' => ∃ (x13_3 : List Int) (x70_3 : Int), v70 = .int .i64 x70_3 ∧ Aside0 (impl_CountShortest.l1 kq a2 t276 t279 x13_3 pS (pS.length : Int) x70_3 = some (r1, r2)) ∧ Aside0 (kq ≤ kS) ∧ Aside0 (Kd.S (Kd.slice 3 (Kd.int .i64)) 37 w' w.heap.size (fun k_ => some k_ ≠ ((.slice (some ad282) t279.length co38) : Value).ownBlock ∧ some k_ ≠ ((.slice (some ⟨go51, 0, none⟩) y290.length co51) : Value).ownBlock ∧ some k_ ≠ ((.slice Ao57 pS.length co57) : Value).ownBlock) (.slice Ao36 t276.length co36) t276) ∧ Aside0 (Kd.R (Kd.int .i64) 3 w' w.heap.size (fun k_ => some k_ ≠ ((.slice (some ⟨go51, 0, none⟩) y290.length co51) : Value).ownBlock ∧ some k_ ≠ ((.slice Ao57 pS.length co57) : Value).ownBlock) (.slice (some ad282) t279.length co38) t279) ∧ Aside0 (Kd.R (Kd.int .i64) 3 w' w.heap.size (fun k_ => some k_ ≠ ((.slice (some ad282) t279.length co38) : Value).ownBlock ∧ some k_ ≠ ((.slice Ao57 pS.length co57) : Value).ownBlock) (.slice (some ⟨go51, 0, none⟩) y290.length co51) x13_3) ∧ Aside0 (Kd.R (Kd.int .i64) 3 w' w.heap.size (fun k_ => some k_ ≠ ((.slice (some ad282) t279.length co38) : Value).ownBlock ∧ some k_ ≠ ((.slice (some ⟨go51, 0, none⟩) y290.length co51) : Value).ownBlock) (.slice Ao57 pS.length co57) pS) ∧ Aside0 (w'.heap[gb272]? = some (.cells #[(.slice A0_0 l0_0.length c0_0), (.slice A0_1 l0_1.length c0_1)] 29 (0, 0))) ∧ Aside0 (w'.heap[gF]? = some (.cells #[(.slice (some ad282) t279.length co38)] 37 (0, 0))) ∧ Aside0 (Below w.heap.size w w'))
                       case atStart => exact ⟨(y293), (0), (by first | rfl | (simp; done) | (simp [*]; done)), H', ⟨Nat.le_refl _⟩, ⟨by (with_reducible repeat (first | apply Kd.S_alloc | apply Kd.S_drewN | apply Kd.S_drew)); exact Kd.S_mono HO_8.out (fun _ hk => ⟨hk.1.1, ⟨hk.2, hk.1.2.1⟩⟩)⟩, ⟨by (with_reducible repeat (first | apply Kd.R_alloc | apply Kd.R_drewN | apply Kd.R_drew)); exact Kd.R_mono HO_9.out (fun _ hk => ⟨hk.2, hk.1⟩)⟩, ⟨by (with_reducible repeat (first | apply Kd.R_alloc | apply Kd.R_drewN | apply Kd.R_drew)); exact Kd.R_mono HO292.out (fun _ hk => ⟨hk.1, hk.2.1⟩)⟩, ⟨by (with_reducible repeat (first | apply Kd.R_alloc | apply Kd.R_drewN | apply Kd.R_drew)); exact Kd.R_mono HO_10.out (fun _ hk => ⟨hk.1.1, hk.2⟩)⟩, ⟨zK BK272.out⟩, ⟨zK BKF.out⟩, ⟨zB⟩⟩
                       case round =>
                        clear H'
                        try clear c1
                        try clear c2
                        try clear p2
                        try clear q2
                        try clear hx2
                        try clear c4
                        try clear c5
                        try clear p5
                        try clear q5
                        try clear hx5
                        try clear hf5
                        try clear p6
                        try clear c7
                        try clear c9
                        try clear c17
                        try clear c19
                        try clear c20
                        try clear c23
                        try clear c26
                        try clear c26b0
                        try clear c27
                        try clear c27b0
                        try clear c28
                        try clear c28b0
                        try clear p28
                        try clear q28
                        try clear hx28
                        try clear c41
                        try clear c41b0
                        try clear c42
                        try clear c42b0
                        try clear c43
                        try clear c43b0
                        try clear c44
                        try clear c44b0
                        try clear c45
                        try clear c47
                        try clear c47b0
                        try clear c47b1
                        try clear c48
                        try clear c48b0
                        try clear c48b1
                        try clear c49
                        try clear c49b0
                        try clear c50
                        try clear c50b0
                        try clear p51
                        try clear q51
                        try clear hx51
                        try clear hf51
                        try clear hcz11_0
                        try clear hcz11_1
                        try clear hcz13_0
                        try clear hcz13_1
                        try clear hcz15_0
                        try clear hcz15_1
                        try clear hcz17_0
                        try clear hcz17_1
                        try clear hcz19_0
                        try clear hcz19_1
                        try clear hcz21_0
                        try clear hcz21_1
                        try clear hcz29_0
                        try clear hcz29_1
                        try clear hcz34_0
                        try clear hcz34_1
                        try clear hcz52_0
                        try clear hcz52_1
                        try clear hfz11_0
                        try clear hfz11_1
                        try clear hfz13_0
                        try clear hfz13_1
                        try clear hfz15_0
                        try clear hfz15_1
                        try clear hfz17_0
                        try clear hfz17_1
                        try clear hfz19_0
                        try clear hfz19_1
                        try clear hfz21_0
                        try clear hfz21_1
                        try clear hfz29_0
                        try clear hfz29_1
                        try clear hfz34_0
                        try clear hfz34_1
                        try clear hfz52_0
                        try clear hfz52_1
                        try clear hx282_0
                        try clear hx286_0
                        try clear hx51_0
                        try clear p2
                        try clear p28
                        try clear p282
                        try clear p286
                        try clear p51
                        try clear q2
                        try clear q28
                        try clear q282
                        try clear q286
                        try clear q51
                        obtain ⟨x13_3, x70_3, rfl, HA, HK3, HO_8, HO_9, HO_13, HO_68, BK272, BKF, HB⟩ := hrel
                        have hl13_3 := (Kd.R_reads' HO_13.out).1
                        rw [hl13_3] at HO_13
                        (try simp only [hl13_3])
                        (try simp only [hl13_3] at BK272)
                        (try simp only [hl13_3] at HO_8)
                        (try simp only [hl13_3] at HO_9)
                        (try simp only [hl13_3] at HO_68)
                        cases gk with
                        | zero => exact absurd HA.out (by simp [impl_CountShortest.l1])
                        | succ k3 =>
                         have H := HA.out
                         clear HA
                         simp only [impl_CountShortest.l1] at H
                         by_cases c58 : x70_3 < (pS.length : Int)
                         · rw [if_pos c58] at H
                           have c58b0 := decide_eq_true c58
                           clear c58
                           by_cases c59 : 0 ≤ x70_3
                           · rw [if_pos c59] at H
                             have c59b0 := decide_eq_true c59
                             clear c59
                             by_cases c60 : x70_3 < (pS.length : Int)
                             · rw [if_pos c60] at H
                               have c60b0 := decide_eq_true c60
                               clear c60
                               by_cases c61 : 0 ≤ (rd pS x70_3)
                               · rw [if_pos c61] at H
                                 have c61b0 := decide_eq_true c61
                                 clear c61
                                 by_cases c62 : (rd pS x70_3) < (t276.length : Int)
                                 · rw [if_pos c62] at H
                                   have c62b0 := decide_eq_true c62
                                   clear c62
                                   have H' := Aside0.mk H
                                   clear H
                                   have p295 : 0 ≤ (x70_3 : Int) := of_decide_eq_true zA
                                   have q295 : x70_3 < (pS.length : Int) := of_decide_eq_true zA
                                   obtain ⟨ad295, e295, hx295_0⟩ := Kd.at_int (Kd.R_reads' HO_68.out).2.2 x70_3 p295 q295
                                   cases e295
                                   replace p295 := eq_true p295
                                   replace q295 := eq_true q295
                                   have p296 : 0 ≤ ((rd pS x70_3) : Int) := of_decide_eq_true zA
                                   have q296 : (rd pS x70_3) < (t276.length : Int) := of_decide_eq_true zA
                                   obtain ⟨ad296, A296_0, c296_0, e296, hx296_0, hl296_0, hi296_0⟩ := at_L1 (Kd.S_reads' HO_8.out).2.2 (rd pS x70_3) p296 q296
                                   cases e296
                                   obtain ⟨ce296, hce296, hMe296, hcc296⟩ := Kd.S_get HO_8.out [] (rd pS x70_3) p296 (by first | exact q296 | exact of_decide_eq_true zA | (have e_ := (Kd.S_reads' HO_8.out).1; omega))
                                   obtain ⟨ve296_0, rfl, ge296_0⟩ := hMe296
                                   have hv296_0 := hcc296 0 _ rfl
                                   rw [Nat.add_zero, show ((Kd.slice 3 (Kd.int .i64))).sz = 1 from rfl, Nat.mul_one] at hv296_0
                                   replace hv296_0 := Option.some.inj (hv296_0.symm.trans hx296_0)
                                   rw [hv296_0] at ge296_0
                                   have HL296_0 := zM (show Kd.R (Kd.int .i64) 3 _ _ _ _ (rd_L1 t276 (rd pS x70_3)) from ge296_0)
                                   clear hv296_0 ge296_0
                                   clear hcc296 hce296
                                   have HR296_0 := Aside0.mk hi296_0
                                   have HC296_0 := Aside0.mk hl296_0
                                   clear hi296_0 hl296_0
                                   replace p296 := eq_true p296
                                   replace q296 := eq_true q296
                                   go_wp2
                                   go_loopg [79] k3 (fun kq v79 w' => ∃ (x13_4 : List Int) (x79_4 : Int), v79 = .int .i64 x79_4 ∧ Aside0 (impl_CountShortest.l2 kq a2 t276 t279 x13_4 (rd pS x70_3) pS (pS.length : Int) x70_3 (rd_L1 t276 (rd pS x70_3)) ((rd_L1 t276 (rd pS x70_3)).length : Int) x79_4 = some (r1, r2)) ∧ Aside0 (kq ≤ k3) ∧ Aside0 (Kd.S (Kd.slice 3 (Kd.int .i64)) 37 w' w.heap.size (fun k_ => some k_ ≠ ((.slice (some ad282) t279.length co38) : Value).ownBlock ∧ some k_ ≠ ((.slice (some ⟨go51, 0, none⟩) x13_3.length co51) : Value).ownBlock ∧ some k_ ≠ ((.slice (some ad295) pS.length co57) : Value).ownBlock) (.slice (some ad296) t276.length co36) t276) ∧ Aside0 (Kd.R (Kd.int .i64) 3 w' w.heap.size (fun k_ => some k_ ≠ ((.slice (some ⟨go51, 0, none⟩) x13_3.length co51) : Value).ownBlock ∧ some k_ ≠ ((.slice (some ad295) pS.length co57) : Value).ownBlock) (.slice (some ad282) t279.length co38) t279) ∧ Aside0 (Kd.R (Kd.int .i64) 3 w' w.heap.size (fun k_ => some k_ ≠ ((.slice (some ad282) t279.length co38) : Value).ownBlock ∧ some k_ ≠ ((.slice (some ad295) pS.length co57) : Value).ownBlock) (.slice (some ⟨go51, 0, none⟩) x13_3.length co51) x13_4) ∧ Aside0 (Kd.R (Kd.int .i64) 3 w' w.heap.size (fun k_ => some k_ ≠ ((.slice (some ad282) t279.length co38) : Value).ownBlock ∧ some k_ ≠ ((.slice (some ⟨go51, 0, none⟩) x13_3.length co51) : Value).ownBlock) (.slice (some ad295) pS.length co57) pS) ∧ Aside0 (Kd.R (Kd.int .i64) 3 w' w.heap.size (fun k_ => some k_ ≠ ((.slice (some ⟨go51, 0, none⟩) x13_3.length co51) : Value).ownBlock) (.slice A296_0 (rd_L1 t276 (rd pS x70_3)).length c296_0) (rd_L1 t276 (rd pS x70_3))) ∧ Aside0 (w'.heap[gb272]? = some (.cells #[(.slice A0_0 l0_0.length c0_0), (.slice A0_1 l0_1.length c0_1)] 29 (0, 0))) ∧ Aside0 (w'.heap[gF]? = some (.cells #[(.slice (some ad282) t279.length co38)] 37 (0, 0))) ∧ Aside0 (Below w.heap.size w w'))
                                   case atStart => exact ⟨(x13_3), (0), (by first | rfl | (simp; done) | (simp [*]; done)), H', ⟨Nat.le_refl _⟩, ⟨by (try simp only [hl13_3]); (with_reducible repeat (first | apply Kd.S_alloc | apply Kd.S_drewN | apply Kd.S_drew)); exact HO_8.out⟩, ⟨by (try simp only [hl13_3]); (with_reducible repeat (first | apply Kd.R_alloc | apply Kd.R_drewN | apply Kd.R_drew)); exact HO_9.out⟩, ⟨by (try simp only [hl13_3]); (with_reducible repeat (first | apply Kd.R_alloc | apply Kd.R_drewN | apply Kd.R_drew)); exact HO_13.out⟩, ⟨by (try simp only [hl13_3]); (with_reducible repeat (first | apply Kd.R_alloc | apply Kd.R_drewN | apply Kd.R_drew)); exact HO_68.out⟩, ⟨by (try simp only [hl13_3]); (with_reducible repeat (first | apply Kd.R_alloc | apply Kd.R_drewN | apply Kd.R_drew)); exact Kd.R_mono HL296_0.out (fun _ hk => hk.1.2.1)⟩, ⟨by (try simp only [hl13_3]); (with_reducible repeat (first | refine blk_drewN ?_ _ | refine blk_drew ?_ | refine blk_alloc ?_ _)); exact BK272.out⟩, ⟨by (try simp only [hl13_3]); (with_reducible repeat (first | refine blk_drewN ?_ _ | refine blk_drew ?_ | refine blk_alloc ?_ _)); exact BKF.out⟩, ⟨zB⟩⟩
                                   case round =>
                                    clear H'
                                    try clear c1
                                    try clear c2
                                    try clear p2
                                    try clear q2
                                    try clear hx2
                                    try clear c4
                                    try clear c5
                                    try clear p5
                                    try clear q5
                                    try clear hx5
                                    try clear hf5
                                    try clear c6
                                    try clear p6
                                    try clear c7
                                    try clear c9
                                    try clear c17
                                    try clear c19
                                    try clear c20
                                    try clear c23
                                    try clear c26
                                    try clear c26b0
                                    try clear c27
                                    try clear c27b0
                                    try clear c28
                                    try clear c28b0
                                    try clear p28
                                    try clear q28
                                    try clear hx28
                                    try clear c29
                                    try clear p29
                                    try clear q29
                                    try clear hx29
                                    try clear c41
                                    try clear c41b0
                                    try clear c42
                                    try clear c42b0
                                    try clear c43
                                    try clear c43b0
                                    try clear c44
                                    try clear c44b0
                                    try clear c45
                                    try clear c47
                                    try clear c47b0
                                    try clear c47b1
                                    try clear c48
                                    try clear c48b0
                                    try clear c48b1
                                    try clear c49
                                    try clear c49b0
                                    try clear c50
                                    try clear c50b0
                                    try clear p51
                                    try clear q51
                                    try clear hx51
                                    try clear hf51
                                    try clear c58
                                    try clear c58b0
                                    try clear c59
                                    try clear c59b0
                                    try clear c60
                                    try clear c60b0
                                    try clear c61
                                    try clear c61b0
                                    try clear c62
                                    try clear c62b0
                                    try clear hcz11_0
                                    try clear hcz11_1
                                    try clear hcz13_0
                                    try clear hcz13_1
                                    try clear hcz15_0
                                    try clear hcz15_1
                                    try clear hcz17_0
                                    try clear hcz17_1
                                    try clear hcz19_0
                                    try clear hcz19_1
                                    try clear hcz21_0
                                    try clear hcz21_1
                                    try clear hcz29_0
                                    try clear hcz29_1
                                    try clear hcz34_0
                                    try clear hcz34_1
                                    try clear hcz52_0
                                    try clear hcz52_1
                                    try clear hfz11_0
                                    try clear hfz11_1
                                    try clear hfz13_0
                                    try clear hfz13_1
                                    try clear hfz15_0
                                    try clear hfz15_1
                                    try clear hfz17_0
                                    try clear hfz17_1
                                    try clear hfz19_0
                                    try clear hfz19_1
                                    try clear hfz21_0
                                    try clear hfz21_1
                                    try clear hfz29_0
                                    try clear hfz29_1
                                    try clear hfz34_0
                                    try clear hfz34_1
                                    try clear hfz52_0
                                    try clear hfz52_1
                                    try clear hx282_0
                                    try clear hx286_0
                                    try clear hx295_0
                                    try clear hx296_0
                                    try clear hx51_0
                                    try clear p2
                                    try clear p28
                                    try clear p282
                                    try clear p286
                                    try clear p295
                                    try clear p296
                                    try clear p5
                                    try clear p51
                                    try clear p6
                                    try clear q2
                                    try clear q28
                                    try clear q282
                                    try clear q286
                                    try clear q295
                                    try clear q296
                                    try clear q5
                                    try clear q51
                                    obtain ⟨x13_4, x79_4, rfl, HA, HK4, HO_8, HO_9, HO_13, HO_68, HLR, BK272, BKF, HB⟩ := hrel
                                    have hl13_4 := (Kd.R_reads' HO_13.out).1
                                    rw [hl13_4] at HO_13
                                    (try simp only [hl13_4])
                                    (try simp only [hl13_4] at BK272)
                                    (try simp only [hl13_4] at HO_8)
                                    (try simp only [hl13_4] at HO_9)
                                    (try simp only [hl13_4] at HLR)
                                    (try simp only [hl13_4] at HO_68)
                                    cases gk with
                                    | zero => exact absurd HA.out (by simp [impl_CountShortest.l2])
                                    | succ k4 =>
                                     have H := HA.out
                                     clear HA
                                     simp only [impl_CountShortest.l2] at H
                                     by_cases c63 : x79_4 < ((rd_L1 t276 (rd pS x70_3)).length : Int)
                                     · rw [if_pos c63] at H
                                       have c63b0 := decide_eq_true c63
                                       clear c63
                                       by_cases c64 : 0 ≤ x79_4
                                       · rw [if_pos c64] at H
                                         have c64b0 := decide_eq_true c64
                                         clear c64
                                         by_cases c65 : x79_4 < ((rd_L1 t276 (rd pS x70_3)).length : Int)
                                         · rw [if_pos c65] at H
                                           have c65b0 := decide_eq_true c65
                                           clear c65
                                           by_cases c66 : 0 ≤ (rd (rd_L1 t276 (rd pS x70_3)) x79_4)
                                           · rw [if_pos c66] at H
                                             have c66b0 := decide_eq_true c66
                                             clear c66
                                             by_cases c67 : (rd (rd_L1 t276 (rd pS x70_3)) x79_4) < (t279.length : Int)
                                             · rw [if_pos c67] at H
                                               have c67b0 := decide_eq_true c67
                                               clear c67
                                               by_cases c68 : 0 ≤ (rd pS x70_3)
                                               · rw [if_pos c68] at H
                                                 have c68b0 := decide_eq_true c68
                                                 clear c68
                                                 by_cases c69 : (rd pS x70_3) < (t279.length : Int)
                                                 · rw [if_pos c69] at H
                                                   have c69b0 := decide_eq_true c69
                                                   clear c69
                                                   by_cases c70 : (rd t279 (rd (rd_L1 t276 (rd pS x70_3)) x79_4)) = (wrap64 ((rd t279 (rd pS x70_3)) + 1))
                                                   · rw [if_pos c70] at H
                                                     have c70b0 : ((rd t279 (rd (rd_L1 t276 (rd pS x70_3)) x79_4)) == (wrap64 ((rd t279 (rd pS x70_3)) + 1))) = true := beq_iff_eq.mpr c70
                                                     have c70b1 : ((rd t279 (rd (rd_L1 t276 (rd pS x70_3)) x79_4)) != (wrap64 ((rd t279 (rd pS x70_3)) + 1))) = false := bne_eq_false_iff_eq.mpr c70
                                                     clear c70
                                                     by_cases c71 : (rd (rd_L1 t276 (rd pS x70_3)) x79_4) < (x13_4.length : Int)
                                                     · rw [if_pos c71] at H
                                                       have c71b0 := decide_eq_true c71
                                                       clear c71
                                                       by_cases c72 : (rd pS x70_3) < (x13_4.length : Int)
                                                       · rw [if_pos c72] at H
                                                         have c72b0 := decide_eq_true c72
                                                         clear c72
                                                         obtain ⟨ji73, hji73⟩ : ∃ j_ : Int, (mn 1000000 (wrap64 ((rd x13_4 (rd (rd_L1 t276 (rd pS x70_3)) x79_4)) + (rd x13_4 (rd pS x70_3))))) = j_ := ⟨_, rfl⟩
                                                         replace H : (impl_CountShortest.l2 k4 a2 t276 t279 (x13_4.set ((rd (rd_L1 t276 (rd pS x70_3)) x79_4) : Int).toNat (ji73)) (rd pS x70_3) pS (pS.length : Int) x70_3 (rd_L1 t276 (rd pS x70_3)) ((rd_L1 t276 (rd pS x70_3)).length : Int) (wrap64 (x79_4 + 1))) = some (r1, r2) := by first | (rw [hji73] at H; exact H) | (simp only [hji73] at H ⊢; exact H)
                                                         have hji73_ : (if (wrap64 ((rd x13_4 (rd (rd_L1 t276 (rd pS x70_3)) x79_4)) + (rd x13_4 (rd pS x70_3)))) < 1000000 then (wrap64 ((rd x13_4 (rd (rd_L1 t276 (rd pS x70_3)) x79_4)) + (rd x13_4 (rd pS x70_3)))) else 1000000) = ji73 := hji73
                                                         obtain ⟨y302, hy302⟩ : ∃ y_ : List Int, y_ = (x13_4.set ((rd (rd_L1 t276 (rd pS x70_3)) x79_4) : Int).toNat (ji73)) := ⟨_, rfl⟩
                                                         replace H : (impl_CountShortest.l2 k4 a2 t276 t279 y302 (rd pS x70_3) pS (pS.length : Int) x70_3 (rd_L1 t276 (rd pS x70_3)) ((rd_L1 t276 (rd pS x70_3)).length : Int) (wrap64 (x79_4 + 1))) = some (r1, r2) := by first | (rw [hy302]; with_reducible exact H) | (have H2_ := (Option.bind_some _ _).symm.trans H; rw [hy302]; with_reducible exact H2_) | (have H2_ := (Option.bind_some _ _).symm.trans H; with_reducible exact H2_) | with_reducible exact H | (rw [hy302]; exact H) | exact H
                                                         have Ny302 := Aside0.mk hy302
                                                         clear hy302
                                                         have H' := Aside0.mk H
                                                         clear H
                                                         have p297 : 0 ≤ (x79_4 : Int) := of_decide_eq_true zA
                                                         have q297 : x79_4 < ((rd_L1 t276 (rd pS x70_3)).length : Int) := of_decide_eq_true zA
                                                         obtain ⟨ad297, e297, hx297_0⟩ := Kd.at_int (Kd.R_reads' HLR.out).2.2 x79_4 p297 q297
                                                         cases e297
                                                         (try replace hx297_0 := (HB.out.cell (World.block_lt_of_cell? w _ hx297_0)).trans hx297_0)
                                                         replace p297 := eq_true p297
                                                         replace q297 := eq_true q297
                                                         try go_wp2
                                                         replace HO_8 := zM (Kd.S_drew HO_8.out)
                                                         replace HO_9 := zM (Kd.R_drew HO_9.out)
                                                         replace HLR := zM (Kd.R_drew HLR.out)
                                                         replace HO_13 := zM (Kd.R_drew HO_13.out)
                                                         replace HO_68 := zM (Kd.R_drew HO_68.out)
                                                         replace BK272 := zM (blk_drew BK272.out)
                                                         replace BKF := zM (blk_drew BKF.out)
                                                         replace HB := zM (below_drew1 HB.out)
                                                         have p298 : 0 ≤ ((rd (rd_L1 t276 (rd pS x70_3)) x79_4) : Int) := of_decide_eq_true zA
                                                         have q298 : (rd (rd_L1 t276 (rd pS x70_3)) x79_4) < (t279.length : Int) := of_decide_eq_true zA
                                                         obtain ⟨ad298, e298, hx298_0⟩ := Kd.at_int (Kd.R_reads' HO_9.out).2.2 (rd (rd_L1 t276 (rd pS x70_3)) x79_4) p298 q298
                                                         obtain rfl : ad282 = ad298 := (by injection e298)
                                                         replace p298 := eq_true p298
                                                         replace q298 := eq_true q298
                                                         have p299 : 0 ≤ ((rd pS x70_3) : Int) := of_decide_eq_true zA
                                                         have q299 : (rd pS x70_3) < (t279.length : Int) := of_decide_eq_true zA
                                                         obtain ⟨ad299, e299, hx299_0⟩ := Kd.at_int (Kd.R_reads' HO_9.out).2.2 (rd pS x70_3) p299 q299
                                                         obtain rfl : ad282 = ad299 := (by injection e299)
                                                         replace p299 := eq_true p299
                                                         replace q299 := eq_true q299
                                                         have hxF := zy BKF 0
                                                         refine zs (n := 10) (fun w' => w'.cell? (ad282.add ((rd (rd_L1 t276 (rd pS x70_3)) x79_4)).toNat) = some (.int .i64 (rd t279 (rd (rd_L1 t276 (rd pS x70_3)) x79_4))) ∧ w'.cell? (ad282.add ((rd pS x70_3)).toNat) = some (.int .i64 (rd t279 (rd pS x70_3))) ∧ w'.cell? ⟨gF, 0, none⟩ = some (.slice (some ad282) t279.length co38)) ⟨hx298_0, hx299_0, hxF⟩ (fun hHeld => ?_); refine with_tabW impl_CountShortest.tab23 impl_CountShortest.bits23 (fun HT_ HW_ => ?_)
                                                         generalize wr.drew = w75 at HO_8 HO_9 HO_13 HO_68 HLR BK272 BKF HB hx298_0 hx299_0 hHeld ⊢
                                                         refine zt HT_ HW_ 0 83 hHeld ?_ (hy := by rintro w' ⟨s0, s1, s2⟩; go_simp; with_reducible rfl)
                                                         refine zp HT_ 1 84 ?_
                                                         refine zp HT_ 2 85 ?_
                                                         refine zt HT_ HW_ 4 87 hHeld ?_ (hy := by rintro w' ⟨s0, s1, s2⟩; go_simp; with_reducible rfl)
                                                         refine zp HT_ 5 88 ?_
                                                         refine zp HT_ 6 89 ?_
                                                         refine zt HT_ HW_ 3 86 hHeld ?_ (hy := by rintro w' ⟨s0, s1, s2⟩; go_simp; with_reducible rfl)
                                                         refine zt HT_ HW_ 7 90 hHeld ?_ (hy := by rintro w' ⟨s0, s1, s2⟩; go_simp; with_reducible rfl)
                                                         refine zp HT_ 8 91 ?_
                                                         refine zp HT_ 9 92 ?_
                                                         refine zo HT_ ?_
                                                         try go_wp2
                                                         replace HO_8 := zM (Kd.S_drew HO_8.out)
                                                         replace HO_9 := zM (Kd.R_drew HO_9.out)
                                                         replace HLR := zM (Kd.R_drew HLR.out)
                                                         replace HO_13 := zM (Kd.R_drew HO_13.out)
                                                         replace HO_68 := zM (Kd.R_drew HO_68.out)
                                                         replace BK272 := zM (blk_drew BK272.out)
                                                         replace BKF := zM (blk_drew BKF.out)
                                                         replace HB := zM (below_drew1 HB.out)
                                                         have p300 : 0 ≤ ((rd (rd_L1 t276 (rd pS x70_3)) x79_4) : Int) := of_decide_eq_true zA
                                                         have q300 : (rd (rd_L1 t276 (rd pS x70_3)) x79_4) < (x13_4.length : Int) := of_decide_eq_true zA
                                                         obtain ⟨ad300, e300, hx300_0⟩ := Kd.at_int (Kd.R_reads' HO_13.out).2.2 (rd (rd_L1 t276 (rd pS x70_3)) x79_4) p300 q300
                                                         obtain rfl : (⟨go51, 0, none⟩ : Addr) = ad300 := (by injection e300)
                                                         (first | simp only [add_plain] at hx300_0 | simp only [add_at] at hx300_0 | simp only [Addr.add, Nat.zero_add] at hx300_0 | skip)
                                                         replace p300 := eq_true p300
                                                         replace q300 := eq_true q300
                                                         have p301 : 0 ≤ ((rd pS x70_3) : Int) := of_decide_eq_true zA
                                                         have q301 : (rd pS x70_3) < (x13_4.length : Int) := of_decide_eq_true zA
                                                         obtain ⟨ad301, e301, hx301_0⟩ := Kd.at_int (Kd.R_reads' HO_13.out).2.2 (rd pS x70_3) p301 q301
                                                         obtain rfl : (⟨go51, 0, none⟩ : Addr) = ad301 := (by injection e301)
                                                         (first | simp only [add_plain] at hx301_0 | simp only [add_at] at hx301_0 | simp only [Addr.add, Nat.zero_add] at hx301_0 | skip)
                                                         replace p301 := eq_true p301
                                                         replace q301 := eq_true q301
                                                         have p74 : 0 ≤ ((rd (rd_L1 t276 (rd pS x70_3)) x79_4) : Int) := of_decide_eq_true zA
                                                         have q74 : ((rd (rd_L1 t276 (rd pS x70_3)) x79_4) : Int) < ((x13_4.length : Int) : Int) := of_decide_eq_true zA
                                                         obtain ⟨hx74_0, hf74_0⟩ := Kd.R_celln 0 HO_13.out ((rd (rd_L1 t276 (rd pS x70_3)) x79_4) : Int) p74 q74
                                                         replace p74 := eq_true p74
                                                         replace q74 := eq_true q74
                                                         have HP77 := Kd.R_putn HO_13.out ((rd (rd_L1 t276 (rd pS x70_3)) x79_4) : Int) ji73
                                                         rw [← Ny302.out] at HP77
                                                         have HQ77 := Aside0.mk HP77
                                                         clear HP77
                                                         refine start_ (n := 14) (S := fun w' => w'.cell? ⟨go51, ((rd (rd_L1 t276 (rd pS x70_3)) x79_4)).toNat, none⟩ = some (.int .i64 (rd x13_4 (rd (rd_L1 t276 (rd pS x70_3)) x79_4))) ∧ w'.cell? ⟨go51, ((rd pS x70_3)).toNat, none⟩ = some (.int .i64 (rd x13_4 (rd pS x70_3)))) (ds := [13]) #[false, false, false, false, false, false, false, false, false, false, false, false, false, false] (by kernel_rfl) rfl rfl ⟨hx300_0, hx301_0⟩ (fun hHeld => ?_); refine with_tabW impl_CountShortest.tab24 impl_CountShortest.bits24 (fun HT_ HW_ => ?_)
                                                         generalize w75.drew = w76 at HO_8 HO_9 HO_13 HO_68 HLR BK272 BKF HB HQ77 hf74_0 hx300_0 hx301_0 hx74_0 hHeld ⊢
                                                         refine zp HT_ 0 93 ?_
                                                         refine zp HT_ 1 94 ?_
                                                         refine zp HT_ 2 95 ?_
                                                         refine zp HT_ 3 96 ?_
                                                         refine zp HT_ 4 97 ?_
                                                         refine zp HT_ 6 99 ?_
                                                         refine zp HT_ 7 100 ?_
                                                         refine zp HT_ 8 101 ?_
                                                         refine zt HT_ HW_ 5 98 hHeld ?_ (hy := by rintro w' ⟨s0, s1⟩; go_simp; with_reducible rfl)
                                                         refine zt HT_ HW_ 9 102 hHeld ?_ (hy := by rintro w' ⟨s0, s1⟩; go_simp; with_reducible rfl)
                                                         refine zp HT_ 10 103 ?_
                                                         refine zp HT_ 11 104 ?_
                                                         refine zp HT_ 12 105 ?_
                                                         refine last_ (i := 13) (N := none) #[true, true, true, true, true, true, true, true, true, true, true, true, true, true] rfl rfl (one_of HT_.out (by kernel_rfl)) (by decide) (fun K hK => ?_)
                                                         refine skip_ (w1 := ?_) (by rfl) rfl ?_ ?_
                                                         rotate_left
                                                         · go_simp
                                                           rfl
                                                         refine hK.out _ _ ?_
                                                         clear hK K
                                                         refine zo HT_ ?_
                                                         try go_wp2
                                                         (try simp only [← hl13_4])
                                                         go_roundg k4
                                                         case measure => have := HJ3.out; have := HK2.out; have := HK3.out; have := HK4.out; omega
                                                         case rel => exact ⟨(y302), (wrap64 (x79_4 + 1)), (by first | rfl | (simp; done) | (simp [*]; done)), H', ⟨by have := HJ3.out; have := HK2.out; have := HK3.out; have := HK4.out; omega⟩, ⟨by (try simp only [hl13_3]); (try simp only [hl13_4]); (with_reducible repeat (first | apply Kd.S_alloc | apply Kd.S_drewN | apply Kd.S_drew)); exact Kd.S_mono (Kd.S_far (p := ⟨go51, ((rd (rd_L1 t276 (rd pS x70_3)) x79_4) : Int).toNat, none⟩) (Kd.S_mono HO_8.out (fun k_ hk => (⟨hk, fun e_ => hk.2.1 (by rw [e_]; rfl)⟩ : _ ∧ k_ ≠ go51))) (fun _ hk => hk.2) (.int .i64 ji73)) (fun _ hk => ⟨hk.1.1, ⟨hk.1.2.1, hk.1.2.2⟩⟩)⟩, ⟨by (try simp only [hl13_3]); (try simp only [hl13_4]); (with_reducible repeat (first | apply Kd.R_alloc | apply Kd.R_drewN | apply Kd.R_drew)); exact Kd.R_mono (Kd.R_far (p := ⟨go51, ((rd (rd_L1 t276 (rd pS x70_3)) x79_4) : Int).toNat, none⟩) (Kd.R_mono HO_9.out (fun k_ hk => (⟨hk, fun e_ => hk.1 (by rw [e_]; rfl)⟩ : _ ∧ k_ ≠ go51))) (fun _ hk => hk.2) (.int .i64 ji73)) (fun _ hk => ⟨hk.1.1, hk.1.2⟩)⟩, ⟨by (try simp only [hl13_3]); (try simp only [hl13_4]); (with_reducible repeat (first | apply Kd.R_alloc | apply Kd.R_drewN | apply Kd.R_drew)); exact HQ77.out⟩, ⟨by (try simp only [hl13_3]); (try simp only [hl13_4]); (with_reducible repeat (first | apply Kd.R_alloc | apply Kd.R_drewN | apply Kd.R_drew)); exact Kd.R_mono (Kd.R_far (p := ⟨go51, ((rd (rd_L1 t276 (rd pS x70_3)) x79_4) : Int).toNat, none⟩) (Kd.R_mono HO_68.out (fun k_ hk => (⟨hk, fun e_ => hk.2 (by rw [e_]; rfl)⟩ : _ ∧ k_ ≠ go51))) (fun _ hk => hk.2) (.int .i64 ji73)) (fun _ hk => ⟨hk.1.1, hk.1.2⟩)⟩, ⟨by (try simp only [hl13_3]); (try simp only [hl13_4]); (with_reducible repeat (first | apply Kd.R_alloc | apply Kd.R_drewN | apply Kd.R_drew)); exact Kd.R_mono (Kd.R_far (p := ⟨go51, ((rd (rd_L1 t276 (rd pS x70_3)) x79_4) : Int).toNat, none⟩) (Kd.R_mono HLR.out (fun k_ hk => (⟨hk, fun e_ => hk (by rw [e_]; rfl)⟩ : _ ∧ k_ ≠ go51))) (fun _ hk => hk.2) (.int .i64 ji73)) (fun _ hk => hk.1)⟩, ⟨by (try simp only [hl13_3]); (try simp only [hl13_4]); (with_reducible repeat (first | refine blk_drewN ?_ _ | refine blk_drew ?_ | refine blk_alloc ?_ _)); refine blk_far ?_ (by have h_ := Kd.R_ne HO_13.out BK272.out (by decide); intro e_; exact h_ (by rw [e_]; rfl)) _; (with_reducible repeat (first | refine blk_drewN ?_ _ | refine blk_drew ?_ | refine blk_alloc ?_ _)); exact BK272.out⟩, ⟨by (try simp only [hl13_3]); (try simp only [hl13_4]); (with_reducible repeat (first | refine blk_drewN ?_ _ | refine blk_drew ?_ | refine blk_alloc ?_ _)); refine blk_far ?_ (by have h_ := Kd.R_ne HO_13.out BKF.out (by decide); intro e_; exact h_ (by rw [e_]; rfl)) _; (with_reducible repeat (first | refine blk_drewN ?_ _ | refine blk_drew ?_ | refine blk_alloc ?_ _)); exact BKF.out⟩, ⟨zB⟩⟩
                                                       · rw [if_neg c72] at H
                                                         exact absurd H (by simp)
                                                     · rw [if_neg c71] at H
                                                       exact absurd H (by simp)
                                                   · rw [if_neg c70] at H
                                                     have c70b0 : ((rd t279 (rd (rd_L1 t276 (rd pS x70_3)) x79_4)) == (wrap64 ((rd t279 (rd pS x70_3)) + 1))) = false := beq_eq_false_iff_ne.mpr c70
                                                     have c70b1 : ((rd t279 (rd (rd_L1 t276 (rd pS x70_3)) x79_4)) != (wrap64 ((rd t279 (rd pS x70_3)) + 1))) = true := bne_iff_ne.mpr c70
                                                     have H' := Aside0.mk H
                                                     clear H
                                                     have p297 : 0 ≤ (x79_4 : Int) := of_decide_eq_true zA
                                                     have q297 : x79_4 < ((rd_L1 t276 (rd pS x70_3)).length : Int) := of_decide_eq_true zA
                                                     obtain ⟨ad297, e297, hx297_0⟩ := Kd.at_int (Kd.R_reads' HLR.out).2.2 x79_4 p297 q297
                                                     cases e297
                                                     (try replace hx297_0 := (HB.out.cell (World.block_lt_of_cell? w _ hx297_0)).trans hx297_0)
                                                     replace p297 := eq_true p297
                                                     replace q297 := eq_true q297
                                                     try go_wp2
                                                     replace HO_8 := zM (Kd.S_drew HO_8.out)
                                                     replace HO_9 := zM (Kd.R_drew HO_9.out)
                                                     replace HLR := zM (Kd.R_drew HLR.out)
                                                     replace HO_13 := zM (Kd.R_drew HO_13.out)
                                                     replace HO_68 := zM (Kd.R_drew HO_68.out)
                                                     replace BK272 := zM (blk_drew BK272.out)
                                                     replace BKF := zM (blk_drew BKF.out)
                                                     replace HB := zM (below_drew1 HB.out)
                                                     have p298 : 0 ≤ ((rd (rd_L1 t276 (rd pS x70_3)) x79_4) : Int) := of_decide_eq_true zA
                                                     have q298 : (rd (rd_L1 t276 (rd pS x70_3)) x79_4) < (t279.length : Int) := of_decide_eq_true zA
                                                     obtain ⟨ad298, e298, hx298_0⟩ := Kd.at_int (Kd.R_reads' HO_9.out).2.2 (rd (rd_L1 t276 (rd pS x70_3)) x79_4) p298 q298
                                                     obtain rfl : ad282 = ad298 := (by injection e298)
                                                     replace p298 := eq_true p298
                                                     replace q298 := eq_true q298
                                                     have p299 : 0 ≤ ((rd pS x70_3) : Int) := of_decide_eq_true zA
                                                     have q299 : (rd pS x70_3) < (t279.length : Int) := of_decide_eq_true zA
                                                     obtain ⟨ad299, e299, hx299_0⟩ := Kd.at_int (Kd.R_reads' HO_9.out).2.2 (rd pS x70_3) p299 q299
                                                     obtain rfl : ad282 = ad299 := (by injection e299)
                                                     replace p299 := eq_true p299
                                                     replace q299 := eq_true q299
                                                     have hxF := zy BKF 0
                                                     refine zs (n := 10) (fun w' => w'.cell? (ad282.add ((rd (rd_L1 t276 (rd pS x70_3)) x79_4)).toNat) = some (.int .i64 (rd t279 (rd (rd_L1 t276 (rd pS x70_3)) x79_4))) ∧ w'.cell? (ad282.add ((rd pS x70_3)).toNat) = some (.int .i64 (rd t279 (rd pS x70_3))) ∧ w'.cell? ⟨gF, 0, none⟩ = some (.slice (some ad282) t279.length co38)) ⟨hx298_0, hx299_0, hxF⟩ (fun hHeld => ?_); refine with_tabW impl_CountShortest.tab23 impl_CountShortest.bits23 (fun HT_ HW_ => ?_)
                                                     generalize wr.drew = w78 at HO_8 HO_9 HO_13 HO_68 HLR BK272 BKF HB hx298_0 hx299_0 hHeld ⊢
                                                     refine zt HT_ HW_ 0 83 hHeld ?_ (hy := by rintro w' ⟨s0, s1, s2⟩; go_simp; with_reducible rfl)
                                                     refine zp HT_ 1 84 ?_
                                                     refine zp HT_ 2 85 ?_
                                                     refine zt HT_ HW_ 4 87 hHeld ?_ (hy := by rintro w' ⟨s0, s1, s2⟩; go_simp; with_reducible rfl)
                                                     refine zp HT_ 5 88 ?_
                                                     refine zp HT_ 6 89 ?_
                                                     refine zt HT_ HW_ 3 86 hHeld ?_ (hy := by rintro w' ⟨s0, s1, s2⟩; go_simp; with_reducible rfl)
                                                     refine zt HT_ HW_ 7 90 hHeld ?_ (hy := by rintro w' ⟨s0, s1, s2⟩; go_simp; with_reducible rfl)
                                                     refine zp HT_ 8 91 ?_
                                                     refine zp HT_ 9 92 ?_
                                                     refine zo HT_ ?_
                                                     try go_wp2
                                                     (try simp only [← hl13_4])
                                                     go_roundg k4
                                                     case measure => have := HJ3.out; have := HK2.out; have := HK3.out; have := HK4.out; omega
                                                     case rel => exact ⟨(x13_4), (wrap64 (x79_4 + 1)), (by first | rfl | (simp; done) | (simp [*]; done)), H', ⟨by have := HJ3.out; have := HK2.out; have := HK3.out; have := HK4.out; omega⟩, ⟨by (try simp only [hl13_3]); (try simp only [hl13_4]); (with_reducible repeat (first | apply Kd.S_alloc | apply Kd.S_drewN | apply Kd.S_drew)); exact HO_8.out⟩, ⟨by (try simp only [hl13_3]); (try simp only [hl13_4]); (with_reducible repeat (first | apply Kd.R_alloc | apply Kd.R_drewN | apply Kd.R_drew)); exact HO_9.out⟩, ⟨by (try simp only [hl13_3]); (try simp only [hl13_4]); (with_reducible repeat (first | apply Kd.R_alloc | apply Kd.R_drewN | apply Kd.R_drew)); exact HO_13.out⟩, ⟨by (try simp only [hl13_3]); (try simp only [hl13_4]); (with_reducible repeat (first | apply Kd.R_alloc | apply Kd.R_drewN | apply Kd.R_drew)); exact HO_68.out⟩, ⟨by (try simp only [hl13_3]); (try simp only [hl13_4]); (with_reducible repeat (first | apply Kd.R_alloc | apply Kd.R_drewN | apply Kd.R_drew)); exact HLR.out⟩, ⟨by (try simp only [hl13_3]); (try simp only [hl13_4]); (with_reducible repeat (first | refine blk_drewN ?_ _ | refine blk_drew ?_ | refine blk_alloc ?_ _)); exact BK272.out⟩, ⟨by (try simp only [hl13_3]); (try simp only [hl13_4]); (with_reducible repeat (first | refine blk_drewN ?_ _ | refine blk_drew ?_ | refine blk_alloc ?_ _)); exact BKF.out⟩, ⟨zB⟩⟩
                                                 · rw [if_neg c69] at H
                                                   exact absurd H (by simp)
                                               · rw [if_neg c68] at H
                                                 exact absurd H (by simp)
                                             · rw [if_neg c67] at H
                                               exact absurd H (by simp)
                                           · rw [if_neg c66] at H
                                             exact absurd H (by simp)
                                         · rw [if_neg c65] at H
                                           exact absurd H (by simp)
                                       · rw [if_neg c64] at H
                                         exact absurd H (by simp)
                                     · rw [if_neg c63] at H
                                       have c63b0 : decide (x79_4 < ((rd_L1 t276 (rd pS x70_3)).length : Int)) = false := decide_eq_false c63
                                       clear c63
                                       have H' := Aside0.mk H
                                       clear H
                                       go_wp2
                                       (try simp only [← hl13_3, ← hl13_4])
                                       go_roundg k4
                                       case measure => have := HJ3.out; have := HK2.out; have := HK3.out; have := HK4.out; omega
                                       case rel => exact ⟨(x13_4), (wrap64 (x70_3 + 1)), (by first | rfl | (simp; done) | (simp [*]; done)), H', ⟨by have := HJ3.out; have := HK2.out; have := HK3.out; have := HK4.out; omega⟩, ⟨by (try simp only [hl13_3]); (try simp only [hl13_4]); (with_reducible repeat (first | apply Kd.S_alloc | apply Kd.S_drewN | apply Kd.S_drew)); exact HO_8.out⟩, ⟨by (try simp only [hl13_3]); (try simp only [hl13_4]); (with_reducible repeat (first | apply Kd.R_alloc | apply Kd.R_drewN | apply Kd.R_drew)); exact HO_9.out⟩, ⟨by (try simp only [hl13_3]); (try simp only [hl13_4]); (with_reducible repeat (first | apply Kd.R_alloc | apply Kd.R_drewN | apply Kd.R_drew)); exact HO_13.out⟩, ⟨by (try simp only [hl13_3]); (try simp only [hl13_4]); (with_reducible repeat (first | apply Kd.R_alloc | apply Kd.R_drewN | apply Kd.R_drew)); exact HO_68.out⟩, ⟨by (try simp only [hl13_3]); (try simp only [hl13_4]); (with_reducible repeat (first | refine blk_drewN ?_ _ | refine blk_drew ?_ | refine blk_alloc ?_ _)); exact BK272.out⟩, ⟨by (try simp only [hl13_3]); (try simp only [hl13_4]); (with_reducible repeat (first | refine blk_drewN ?_ _ | refine blk_drew ?_ | refine blk_alloc ?_ _)); exact BKF.out⟩, ⟨zB⟩⟩
                                 · rw [if_neg c62] at H
                                   exact absurd H (by simp)
                               · rw [if_neg c61] at H
                                 exact absurd H (by simp)
                             · rw [if_neg c60] at H
                               exact absurd H (by simp)
                           · rw [if_neg c59] at H
                             exact absurd H (by simp)
                         · rw [if_neg c58] at H
                           have c58b0 : decide (x70_3 < (pS.length : Int)) = false := decide_eq_false c58
                           clear c58
                           by_cases c79 : 0 ≤ a2
                           · rw [if_pos c79] at H
                             have c79b0 := decide_eq_true c79
                             clear c79
                             by_cases c80 : a2 < (x13_3.length : Int)
                             · rw [if_pos c80] at H
                               have c80b0 := decide_eq_true c80
                               clear c80
                               simp only [Option.some.injEq, Prod.mk.injEq] at H
                               obtain ⟨rfl, rfl⟩ := H
                               have p294 : 0 ≤ (a2 : Int) := of_decide_eq_true zA
                               have q294 : a2 < (x13_3.length : Int) := of_decide_eq_true zA
                               obtain ⟨ad294, e294, hx294_0⟩ := Kd.at_int (Kd.R_reads' HO_13.out).2.2 a2 p294 q294
                               obtain rfl : (⟨go51, 0, none⟩ : Addr) = ad294 := (by injection e294)
                               (first | simp only [add_plain] at hx294_0 | simp only [add_at] at hx294_0 | simp only [Addr.add, Nat.zero_add] at hx294_0 | skip)
                               replace p294 := eq_true p294
                               replace q294 := eq_true q294
                               go_wp2
                               go_ret2
                               exact ⟨by first | rfl | (simp [errW_none, errW_some] <;> rfl) | (simp [*, errW_none, errW_some] <;> rfl), zB⟩
                             · rw [if_neg c80] at H
                               exact absurd H (by simp)
                           · rw [if_neg c79] at H
                             exact absurd H (by simp)
                     · rw [if_neg c50] at H
                       exact absurd H (by simp)
                   · rw [if_neg c49] at H
                     exact absurd H (by simp)
                 · rw [if_neg c48] at H
                   exact absurd H (by simp)
               · rw [if_neg c47] at H
                 exact absurd H (by simp)
       · rw [if_neg c27] at H
         exact absurd H (by simp)
     · rw [if_neg c26] at H
       exact absurd H (by simp)

end Go.Proofs.Ytopgbijegnnjbaa.P
