/- The contract of slices.Repeat of a list of one number: the library's own text is walked. -/
import Derived.Test.YtmhoemdclnlgaaaFirstWayG5
import Derived.Test.YtmhoemdclnlgaaaFirstWayG11
import Derived.Handy
import Derived.Test.YtmhoemdclnlgaaaFirstWayG13
import Derived.Test.YtmhoemdclnlgaaaFirstWayG12
namespace Go.Proofs.Ytmhoemdclnlgaaa.P
open Go.RowKit Go.Proofs.YtmhoemdclnlgaaaW.PrintWords Go.Proofs.YtmhoemdclnlgaaaW.PrintLast Go.Proofs.YtmhoemdclnlgaaaW.PrintMore
set_option linter.unusedVariables false
set_option linter.unusedSimpArgs false
set_option maxRecDepth 100000 in
theorem rep_cells {W : World} {base g n cap m : Nat} {x : Int} (HO : Kd.R (Kd.int .i64) 3 W base (fun _ => True) (.slice (some ⟨g, 0, none⟩) n cap) (List.replicate m x ++ List.replicate (n - m) 0)) (hm : m ≤ n) (ty : TypeId) (sCap dCap : Nat) :
    (Builtin.copy_ #[27, 27] ty #[.slice (some ⟨g, m, none⟩) (n - m) dCap, .slice (some ⟨g, 0, none⟩) m sCap]).run Try.prog W = .ok (.int .i64 ((min m (n - m) : Nat) : Int)) (W.setCells g m (List.replicate (min m (n - m)) (Value.int .i64 x))) ∧
    Kd.R (Kd.int .i64) 3 (W.setCells g m (List.replicate (min m (n - m)) (Value.int .i64 x))) base (fun _ => True) (.slice (some ⟨g, 0, none⟩) n cap) (List.replicate (m + min m (n - m)) x ++ List.replicate (n - (m + min m (n - m))) 0) ∧
    W.grownBy (W.setCells g m (List.replicate (min m (n - m)) (Value.int .i64 x))) (some g) := by
  have hown := Kd.own_of_R (enc := Value.int .i64) HO
  have hln : (List.replicate m x ++ List.replicate (n - m) (0 : Int)).length = n := by rw [List.length_append, List.length_replicate, List.length_replicate]; omega
  rcases hown.2 with ⟨h0, _⟩ | ⟨g', cap', cur, hv, hbase, hh, h1, h2, h3, h4⟩
  · cases h0
  injection hv with e1 e2 e3
  injection e1 with e1
  injection e1 with e1 _
  subst e1; subst e3
  rw [hln] at h1 h4
  rw [Nat.mul_one] at h3 h4
  have hget : ∀ j, j < m → W.cell? ⟨g, j, none⟩ = some (Value.int .i64 x) := fun j hj => by
    have e5 : (cur.toList.take n)[j]? = some (Value.int .i64 x) := by
      rw [h4]
      simp [encs, List.getElem?_append_left, hj]
    rw [List.getElem?_take_of_lt (by omega), Array.getElem?_toList] at e5
    simp [World.cell?, hh, e5]
  have hr := run_copy_cells (P := Try.prog) W 27 27 ty 3 g m (n - m) dCap ⟨g, 0, none⟩ m sCap (List.replicate (min m (n - m)) (Value.int .i64 x)) Try.underlying27 (by kernel_rfl) (List.length_replicate ..)
    (fun j v hj => by
      rw [List.getElem?_replicate] at hj
      by_cases c : j < min m (n - m)
      · rw [if_pos c] at hj
        rw [← hj, add_plain]
        exact hget j (by omega)
      · rw [if_neg c] at hj; cases hj)
    (fun j hj => by
      rw [List.length_replicate] at hj
      have : m + j < cur.size := by omega
      simp [World.cell?, hh, this])
    (fun j _ => blk_frozen hh _) (fun v hv => by rw [(List.mem_replicate.1 hv).2]; rfl)
  obtain ⟨cur', k1, k2, k3⟩ := setCells_row (List.replicate (min m (n - m)) (Value.int .i64 x)) m W cur hh (by rw [List.length_replicate]; omega)
  obtain ⟨s1, s2, s3, s4⟩ := setCells_same g (List.replicate (min m (n - m)) (Value.int .i64 x)) m W
  refine ⟨by rw [hr, List.length_replicate]; rfl, Kd.R_of_own (enc := Value.int .i64) ?_ (fun _ _ => trivial), ⟨s1, s2, s3, by rw [s4]; exact Nat.le_refl _, fun k _ hk => setCells_far _ _ k (fun he => hk (by rw [he]))⟩⟩
  have hln2 : (List.replicate (m + min m (n - m)) x ++ List.replicate (n - (m + min m (n - m))) (0 : Int)).length = n := by rw [List.length_append, List.length_replicate, List.length_replicate]; omega
  rw [hln2]
  refine ⟨by rw [encs_length, hln2, Nat.mul_one], .inr ⟨g, cap, cur', rfl, hbase, k1, h1, h2, by rw [k2, h3, Nat.mul_one], ?_⟩⟩
  rw [k3, Nat.mul_one, List.length_replicate]
  have ht : cur.toList.take n = List.replicate m (Value.int .i64 x) ++ List.replicate (n - m) (Value.int .i64 0) := by rw [h4]; simp [encs]
  have hcl : cur.toList.length = cap := by rw [Array.length_toList]; exact h3
  apply List.ext_getElem?
  intro j
  have hj0 : ∀ j, j < n → cur.toList[j]? = (List.replicate m (Value.int .i64 x) ++ List.replicate (n - m) (Value.int .i64 0))[j]? := fun j hj => by rw [← ht, List.getElem?_take_of_lt hj]
  by_cases cj : j < n
  · rw [List.getElem?_take_of_lt cj, List.append_assoc]
    by_cases c1 : j < m
    · rw [List.getElem?_append_left (by rw [List.length_take]; omega), List.getElem?_take_of_lt c1, hj0 j cj]
      simp [encs, List.getElem?_append, List.getElem?_replicate, c1, show j < m + min m (n - m) by omega]
    · rw [List.getElem?_append_right (by rw [List.length_take]; omega), List.length_take, show min m cur.toList.length = m by omega]
      by_cases c2 : j < m + min m (n - m)
      · rw [List.getElem?_append_left (by rw [List.length_replicate]; omega)]
        simp [encs, List.getElem?_append, List.getElem?_replicate, c2, show j - m < min m (n - m) by omega]
      · rw [List.getElem?_append_right (by rw [List.length_replicate]; omega), List.length_replicate, List.getElem?_drop, show m + min m (n - m) + (j - m - min m (n - m)) = j by omega, hj0 j cj]
        simp [encs, List.getElem?_append, List.getElem?_replicate, c1, c2, show j - m < n - m by omega]
        omega
  · rw [List.getElem?_take_eq_none (by omega), List.getElem?_eq_none (by rw [encs_length, hln2]; omega)]
set_option maxRecDepth 100000 in
set_option maxHeartbeats 2000000 in
theorem rep_calls (A0 : Option Addr) (c0 : Nat) (x : Int) (n : Nat) (hn : n ≤ 1048576) (w : World) (hr0 : Kd.C (Kd.int .i64) w A0 1 [x]) (hc0 : 1 ≤ c0) :
    Calls Try.prog 123 #[.slice A0 1 c0, .int .i64 (n : Int)] w fun e w' => ∃ v0_ : Value, e = .returned (v0_) ∧ Kd.R (Kd.int .i64) 3 w' w.heap.size (fun _ => True) v0_ (List.replicate n x) ∧ Below w.heap.size w w' := by
  have HR := Aside0.mk hr0
  have HC := Aside0.mk hc0
  clear hr0 hc0
  have hneg : decide ((n : Int) < 0) = false := decide_eq_false (by omega)
  have hgt : decide ((n : Int) > 9223372036854775807) = false := decide_eq_false (by omega)
  have hgt2 : decide (9223372036854775807 < (n : Int)) = false := decide_eq_false (by omega)
  have HN := Aside0.mk hn
  have hinf : (Try.prog.info? 3).map (·.size) = some 1 := by kernel_rfl
  have HB := zM (Below.refl w.heap.size w)
  have hmul := Try.bits_Mul 1 n (by decide) (by omega) w
  rw [Nat.one_mul, Nat.div_eq_of_lt (by omega), Nat.mod_eq_of_lt (by omega), show ((1 : Nat) : Int) = 1 from rfl, show ((0 : Nat) : Int) = 0 from rfl] at hmul
  have HM := Aside0.mk hmul
  clear hmul
  go_enter Try.func123, Try.ntmps123
  go_wp2_with (first
    | (go_at_call 162; refine HM.out.mono ?_; rintro e w' ⟨rfl, hw⟩; replace hw := hw.symm; subst hw)
    | ((with_reducible refine gate_dst (N := 30) rfl ?_); refine Kd.R_make (Kd.int .i64) _ 3 rfl (N := 30) rfl 27 _ _ rfl (n : Int) rfl rfl Try.underlying27 (.int .i64 0) 8 info3 rfl (by decide) (by omega) 0 (ok := fun _ => True) (okp := fun _ => True) rfl (fun _ hk => hk) trivial (by omega) (by rw [Int.toNat_natCast]; have := HN.out; omega) (Below.refl _ _) (Nat.le_refl _) ?_; intro v w8 ho hb hg_ hnew_; clear hg_ hnew_; rw [Int.toNat_natCast] at ho; have HO := zM (Kd.R_lower ho (below_size HB.out)); have HR1 := zM (Kd.C_below HR.out hb); replace HB := zM (below_step HB.out hb); clear ho hb)
    | ((with_reducible refine gate_builtin (b := .copy) (xs := #[.tmp 31, .tmp 32]) rfl ?_); refine Kd.R_copy (enc := Value.int .i64) (0 : Int) (w0 := w) w.heap.size rfl (.tmp 31) (.tmp 32) 27 27 3 rfl Try.underlying27 hinf v (List.replicate n 0) [x] A0 1 c0 (fun _ => True) rfl rfl HO.out HR1.out HB.out (below_size HB.out) ?_; intro w9 ho hb hg_; replace HO := zM ho; replace HB := zM hb; clear ho hb hg_ HR1))
  have hlen : (List.replicate n (0 : Int)).length = n := List.length_replicate ..
  rw [hlen] at HO
  (try simp only [hlen])
  have hrow : List.take (min 1 n) [x] ++ List.drop (min 1 n) (List.replicate n (0 : Int)) = List.replicate (min 1 n) x ++ List.replicate (n - min 1 n) 0 := by
    rw [List.drop_replicate]
    congr 1
    rcases Nat.eq_zero_or_pos n with h | h
    · subst h; rfl
    · rw [show min 1 n = 1 by omega]; rfl
  rw [hrow] at HO
  have HO2 := Aside0.mk (show Kd.R (Kd.int .i64) 3 w9 w.heap.size (fun _ => True) v (List.replicate (min 1 n) x ++ List.replicate (n - min 1 n) 0) from HO.out)
  clear HO hrow hlen
  obtain ⟨Av, cv, ev⟩ := Kd.R_slice HO2.out
  rw [show (List.replicate (min 1 n) x ++ List.replicate (n - min 1 n) (0 : Int)).length = n by rw [List.length_append, List.length_replicate, List.length_replicate]; exact Nat.add_sub_of_le (Nat.min_le_right 1 n)] at ev
  subst ev
  go_loopg [8] (n + 1) (fun kq v8 w' => ∃ m : Nat, v8 = .int .i64 (m : Int) ∧ Aside0 (m ≤ n) ∧ Aside0 (m = 0 → n = 0) ∧ Aside0 (n - m < kq) ∧ Aside0 (Kd.R (Kd.int .i64) 3 w' w.heap.size (fun _ => True) (.slice Av n cv) (List.replicate m x ++ List.replicate (n - m) 0)) ∧ Aside0 (Below w.heap.size w w'))
  case atStart => exact ⟨min 1 n, rfl, ⟨by omega⟩, ⟨by omega⟩, ⟨by omega⟩, HO2, HB⟩
  case round =>
    clear HO2 HB
    obtain ⟨m, rfl, HM1, HM0, HK1, HO, HB⟩ := hrel
    by_cases c1 : m < n
    · have hm1 := HM1.out
      obtain ⟨g, cap, eg, gb, gl, HG⟩ := Kd.R_form HO.out (by rw [List.length_append, List.length_replicate, List.length_replicate]; omega)
      injection eg with eA eN ec
      clear eN
      subst eA; subst ec
      have c1b : decide ((m : Int) < (n : Int)) = true := decide_eq_true (by omega)
      have c1c : decide (m < n) = true := decide_eq_true c1
      have p1 : (0 : Int) ≤ (m : Int) := by omega
      have q1 : (m : Int) ≤ (n : Int) := by omega
      have hcap : n ≤ cv := (Kd.R_reads' HO.out).2.1
      have HCAP := Aside0.mk hcap
      have GB := Aside0.mk gb
      have hcm : (m ≤ cv) = True := eq_true (by omega)
      have hce : (cv = m) = False := eq_false (by omega)
      replace p1 := eq_true p1
      replace q1 := eq_true q1
      clear hm1 c1 hcap hn gb gl HG hgt hgt2 hneg hinf
      go_upto_region 9 with (fail)
      (try simp only [Act.put, List.setIfInBounds_toArray, List.set_cons_zero, List.set_cons_succ])
      refine zs (n := 10) (fun _ => True) trivial (fun hHeld => ?_)
      have HO1 := zM (Kd.R_drew HO.out)
      have HB1 := zM (below_drew1 HB.out)
      clear HO HB
      generalize wr.drew = w10 at HO1 HB1 hHeld ⊢
      obtain ⟨C1, C2, C3⟩ := rep_cells HO1.out HM1.out 3 cv (cv - m)
      have CR := Aside0.mk C1
      have CO := Aside0.mk C2
      have CG := Aside0.mk C3
      clear C1 C2 C3
      refine zq 0 38 ?_
      refine zq 1 39 ?_
      refine zq 2 40 ?_
      refine zq 3 41 ?_
      refine zq 4 42 ?_
      refine zq 5 43 ?_
      refine zq 6 44 ?_
      refine one_ (i := 7) (N := some 45) #[true, true, true, true, true, true, true, true, false, false] rfl rfl (by kernel_rfl) (by decide) (fun K hK => ?_)
      refine value_ (w1 := w10.setCells g m (List.replicate (min m (n - m)) (Value.int .i64 x))) (v := .int .i64 ((min m (n - m) : Nat) : Int)) (by rfl) rfl ?_ ?_
      · go_simp
        rw [CR.out]
        rfl
      refine hK.out _ _ trivial (fun hHeld => ?_)
      clear hK K
      refine zn 45 ?_
      have hw1 : wrap64 ((m : Int) + ((min m (n - m) : Nat) : Int)) = ((m + min m (n - m) : Nat) : Int) := by
        have := HN.out
        have := HM1.out
        have := Nat.min_le_left m (n - m)
        unfold wrap64
        omega
      have HW := Aside0.mk hw1
      clear hw1
      refine zq 8 46 ?_
      refine zq 9 8 ?_
      refine zx ?_
      have hlt := of_decide_eq_true c1c
      have hmp : 0 < m := by
        rcases Nat.eq_zero_or_pos m with h | h
        · have := HM0.out h; omega
        · exact h
      have hq0 : 0 < min m (n - m) := by rw [Nat.lt_min]; omega
      have hq1 : m + min m (n - m) ≤ n := by have := Nat.min_le_right m (n - m); omega
      have HB2 := Aside0.mk (HB1.out.grown CG.out HB1.out.size (fun k hk => by injection hk with hk; have := GB.out; omega))
      (try go_wp2)
      go_roundg (n - m)
      case measure => exact HK1.out
      case rel => exact ⟨m + min m (n - m), by first | rfl | exact congrArg (Value.int .i64) HW.out | (rw [HW.out]; done), ⟨hq1⟩, ⟨fun h => by omega⟩, ⟨by omega⟩, CO, HB2⟩
    · have hm1 := HM1.out
      have e1 : m = n := by omega
      have c1b : decide ((m : Int) < (n : Int)) = false := decide_eq_false (by omega)
      have c1c : decide (m < n) = false := decide_eq_false c1
      have HE := Aside0.mk e1
      clear e1 c1 hm1 hn hgt hgt2 hneg hinf
      go_wp2
      go_ret
      refine ⟨_, rfl, ?_, HB.out⟩
      have e2 : List.replicate m x ++ List.replicate (n - m) 0 = List.replicate n x := by rw [HE.out, Nat.sub_self]; simp
      rw [← e2]
      exact HO.out
def slices_Repeat_int_int.f (l : List Int) (n : Int) : Option (List Int) := if l.length = 1 ∧ 0 ≤ n ∧ n ≤ 1048576 then some (List.replicate n.toNat (l.headD 0)) else none
theorem slices_Repeat_int_int.calls (A0 : Option Addr) (c0 : Nat) (l0 : List Int) (a1 : Int) (r : List Int) (w : World) (hr0 : Kd.C (Kd.int .i64) w A0 l0.length l0) (hc0 : l0.length ≤ c0) (h : slices_Repeat_int_int.f l0 a1 = some r) :
    Calls Try.prog 123 #[.slice A0 l0.length c0, .int .i64 a1] w fun e w' => ∃ v0_ : Value, e = .returned (v0_) ∧ Kd.R (Kd.int .i64) 3 w' w.heap.size (fun _ => True) v0_ r ∧ Below w.heap.size w w' := by
  unfold slices_Repeat_int_int.f at h
  by_cases c : l0.length = 1 ∧ 0 ≤ a1 ∧ a1 ≤ 1048576
  · rw [if_pos c] at h
    obtain rfl := Option.some.inj h
    obtain ⟨c1, c2, c3⟩ := c
    obtain ⟨n, rfl⟩ := Int.eq_ofNat_of_zero_le c2
    cases l0 with
    | nil => simp at c1
    | cons x t =>
      have ht : t = [] := by cases t with
        | nil => rfl
        | cons y s => simp at c1
      subst ht
      rw [Int.toNat_natCast]
      exact rep_calls A0 c0 x n (by omega) w hr0 hc0
  · rw [if_neg c] at h
    cases h
end Go.Proofs.Ytmhoemdclnlgaaa.P
namespace Go.Proofs.Ytmhoemdclnlgaaa.P
open Go.RowKit Go.Proofs.YtmhoemdclnlgaaaW.PrintWords Go.Proofs.YtmhoemdclnlgaaaW.PrintLast Go.Proofs.YtmhoemdclnlgaaaW.PrintMore
attribute [local go_sem] max2_int min2_int max_two min_two max_three min_three max_four min_four   -- for this text's walks alone
set_option linter.unusedVariables false
set_option linter.unusedSimpArgs false

/-! ### impl_Space_isPlace: function 58 -/
def impl_Space_isPlace.f (l0_0 : List (List Int)) (l0_1 : List (S79)) (a1 : Int) : Option (Bool) := (impl_between.f a1 0 (wrap64 ((l0_0.length : Int) - 1))).bind fun t237 => (some t237)
set_option maxHeartbeats 8000000 in
set_option maxRecDepth 100000 in
theorem impl_Space_isPlace.calls (A0_0 : Option Addr) (c0_0 : Nat) (l0_0 : List (List Int)) (A0_1 : Option Addr) (c0_1 : Nat) (l0_1 : List (S79)) (a1 : Int) (r : Bool) (w : World) (hr0_0 : Kd.C (Kd.slice 3 (Kd.int .i64)) w A0_0 l0_0.length l0_0) (hc0_0 : l0_0.length ≤ c0_0) (hr0_1 : Kd.C k79 w A0_1 l0_1.length l0_1) (hc0_1 : l0_1.length ≤ c0_1) (h : impl_Space_isPlace.f l0_0 l0_1 a1 = some r) :
 Calls Try.prog 58 #[.agg #[.slice A0_0 l0_0.length c0_0, .slice A0_1 l0_1.length c0_1], .int .i64 a1] w fun e w' => e = .returned (.bool r) ∧ Below w.heap.size w w' := by
 have hu30 := Try.underlying30
 have HR0_0 := Aside0.mk hr0_0
 have HC0_0 := Aside0.mk hc0_0
 clear hr0_0 hc0_0
 have HR0_1 := Aside0.mk hr0_1
 have HC0_1 := Aside0.mk hc0_1
 clear hr0_1 hc0_1
 have HB := zM (Below.refl w.heap.size w)
 have H : ((impl_between.f a1 0 (wrap64 ((l0_0.length : Int) - 1))).bind fun t237 => (some t237)) = some r := h
 clear h
 replace H := Option.bind_eq_some_iff.mp H
 obtain ⟨t237, A30, H⟩ := H
 have A3 := Aside0.mk A30
 clear A30
 obtain rfl := Option.some.inj H
 go_enter Try.func58, Try.ntmps58
 go_wp2_with (first | ((with_reducible refine gate_dst (N := 2) rfl ?_); refine zb (w := w) 2 #[.slice A0_0 l0_0.length c0_0, .slice A0_1 l0_1.length c0_1] 30 zB ?_; clear HB; intro gb236 w4 HB BK236 GW236; have GE236 := GW236; have hcz5_0 := zy BK236 0; have hcz5_1 := zy BK236 1; have hfz5_0 := blk_frozen BK236.out 0; have hfz5_1 := blk_frozen BK236.out 1) | ((with_reducible refine gate_callee (f := 96) rfl ?_); refine zc 10 Try.func96 #[.int .i64 a1, .int .i64 0, .int .i64 (wrap64 ((l0_0.length : Int) - 1))] ?_; (with_reducible refine (impl_between.calls a1 0 (wrap64 ((l0_0.length : Int) - 1)) t237 _ A3.out).mono ?_); rintro e w' ⟨rfl, ⟨nd, rfl⟩⟩; refine ⟨_, rfl, ?_⟩))
 go_ret
 exact ⟨by first | rfl | (simp [errW_none, errW_some] <;> rfl) | (simp [*, errW_none, errW_some] <;> rfl), zB⟩

/-! ### impl_spread: function 59 -/
mutual
def impl_spread.l0 : Nat → List (List Int) → List Int → List Int → Option (List Int)
 | 0, _, _, _ => none
 | k + 1, x0, x5, x6 => if (x6.length : Int) > 0 then (if 0 < (x6.length : Int) then (if 1 ≤ (x6.length : Int) then (if 0 ≤ (rd x6 0) then (if (rd x6 0) < (x0.length : Int) then (impl_spread.l1 k x0 x5 (x6.drop (1 : Int).toNat) (rd x6 0) (rd_L1 x0 (rd x6 0)) ((rd_L1 x0 (rd x6 0)).length : Int) 0) else (none)) else (none)) else (none)) else (none)) else (some x5)
def impl_spread.l1 : Nat → List (List Int) → List Int → List Int → Int → List Int → Int → Int → Option (List Int)
 | 0, _, _, _, _, _, _, _ => none
 | k + 1, x0, x5, x6, x7, x30, x31, x32 => if x32 < x31 then (if 0 ≤ x32 then (if x32 < (x30.length : Int) then (if 0 ≤ (rd x30 x32) then (if (rd x30 x32) < (x5.length : Int) then (if (rd x5 (rd x30 x32)) < 0 then (if 0 ≤ x7 then (if x7 < (x5.length : Int) then (if x6.length < 17592186044416 then (impl_spread.l1 k x0 (x5.set ((rd x30 x32) : Int).toNat (wrap64 ((rd x5 x7) + 1))) (x6 ++ [rd x30 x32]) x7 x30 x31 (wrap64 (x32 + 1))) else (none)) else (none)) else (none)) else (impl_spread.l1 k x0 x5 x6 x7 x30 x31 (wrap64 (x32 + 1)))) else (none)) else (none)) else (none)) else (none)) else (impl_spread.l0 k x0 x5 x6)
end
def impl_spread.f (k : Nat) (l0 : List (List Int)) (a1 : Int) : Option (List Int) := (slices_Repeat_int_int.f (([(-1)] : List Int)) (l0.length : Int)).bind fun t241 => (if 0 ≤ a1 then (if a1 < (t241.length : Int) then (impl_spread.l0 k l0 (t241.set (a1 : Int).toNat 0) (([a1] : List Int))) else (none)) else (none))
set_option maxHeartbeats 8000000 in
set_option maxRecDepth 100000 in
theorem impl_spread.calls (k : Nat) (A0 : Option Addr) (c0 : Nat) (l0 : List (List Int)) (a1 : Int) (r : List Int) (w : World) (hr0 : Kd.C (Kd.slice 3 (Kd.int .i64)) w A0 l0.length l0) (hc0 : l0.length ≤ c0) (h : impl_spread.f k l0 a1 = some r) :
 Calls Try.prog 59 #[.slice A0 l0.length c0, .int .i64 a1] w fun e w' => ∃ v0_ : Value, e = .returned (v0_) ∧ Kd.R (Kd.int .i64) 3 w' w.heap.size (fun _ => True) v0_ r ∧ Below w.heap.size w w' := by
 have HR0 := Aside0.mk hr0
 have HC0 := Aside0.mk hc0
 clear hr0 hc0
 have HB := zM (Below.refl w.heap.size w)
 have H : ((slices_Repeat_int_int.f (([(-1)] : List Int)) (l0.length : Int)).bind fun t241 => (if 0 ≤ a1 then (if a1 < (t241.length : Int) then (impl_spread.l0 k l0 (t241.set (a1 : Int).toNat 0) (([a1] : List Int))) else (none)) else (none))) = some r := h
 clear h
 obtain ⟨y238, hy238⟩ : ∃ y_ : List Int, y_ = (([(-1)] : List Int)) := ⟨_, rfl⟩
 replace H : ((slices_Repeat_int_int.f y238 (l0.length : Int)).bind fun t241 => (if 0 ≤ a1 then (if a1 < (t241.length : Int) then (impl_spread.l0 k l0 (t241.set (a1 : Int).toNat 0) (([a1] : List Int))) else (none)) else (none))) = some r := by first | (rw [hy238]; with_reducible exact H) | (have H2_ := (Option.bind_some _ _).symm.trans H; rw [hy238]; with_reducible exact H2_) | (have H2_ := (Option.bind_some _ _).symm.trans H; with_reducible exact H2_) | with_reducible exact H | (rw [hy238]; exact H) | exact H
 have Ny238 := Aside0.mk hy238
 clear hy238
 replace H := Option.bind_eq_some_iff.mp H
 obtain ⟨t241, A30, H⟩ := H
 have A3 := Aside0.mk A30
 clear A30
 by_cases c4 : 0 ≤ a1
 · rw [if_pos c4] at H
   have c4b0 := decide_eq_true c4
   clear c4
   by_cases c5 : a1 < (t241.length : Int)
   · rw [if_pos c5] at H
     have c5b0 := decide_eq_true c5
     clear c5
     obtain ⟨y244, hy244⟩ : ∃ y_ : List Int, y_ = (t241.set (a1 : Int).toNat 0) := ⟨_, rfl⟩
     replace H : (impl_spread.l0 k l0 y244 (([a1] : List Int))) = some r := by first | (rw [hy244]; with_reducible exact H) | (have H2_ := (Option.bind_some _ _).symm.trans H; rw [hy244]; with_reducible exact H2_) | (have H2_ := (Option.bind_some _ _).symm.trans H; with_reducible exact H2_) | with_reducible exact H | (rw [hy244]; exact H) | exact H
     have Ny244 := Aside0.mk hy244
     clear hy244
     obtain ⟨y245, hy245⟩ : ∃ y_ : List Int, y_ = (([a1] : List Int)) := ⟨_, rfl⟩
     replace H : (impl_spread.l0 k l0 y244 y245) = some r := by first | (rw [hy245]; with_reducible exact H) | (have H2_ := (Option.bind_some _ _).symm.trans H; rw [hy245]; with_reducible exact H2_) | (have H2_ := (Option.bind_some _ _).symm.trans H; with_reducible exact H2_) | with_reducible exact H | (rw [hy245]; exact H) | exact H
     have Ny245 := Aside0.mk hy245
     clear hy245
     have H' := Aside0.mk H
     clear H
     go_enter Try.func59, Try.ntmps59
     go_wp2_with (first | ((with_reducible refine gate_dst (N := 10) rfl ?_); refine Kd.R_lit (Kd.int .i64) _ 3 ?hg (N := 10) ?hd (xs := ([(-1)] : List Int)) (inner := [.int .i64 (-1)]) (ok := fun _ => True) (okp := fun _ => True) ?hr ?hp (fun _ hk => hk) trivial (Below.refl _ _) (Nat.le_refl _) (by simp) ?_; (case hd => rfl); (case hg => rfl); (case hr => first | (go_simp; done) | (go_simp; rfl)); (case hp => exact (Reps.one (show Kd.M (Kd.int .i64) _ _ _ (-1) [.int .i64 (-1)] from rfl) (Reps.none _ _))); intro v239 w7 ho8 hb hg_ hnew_; clear hg_ hnew_; (first | rw [← Ny238.out] at ho8 | (simp only [Int.reduceToNat] at ho8; rw [← Ny238.out] at ho8)); have HO240 := zM (Kd.R_lower ho8 (below_size zB)); replace HB := zM (below_step zB hb); clear hb ho8; obtain ⟨Ao9, co9, eo9⟩ := Kd.R_slice HO240.out; subst eo9) | ((with_reducible refine gate_callee (f := 123) rfl ?_); refine zc 13 Try.func123 #[.slice Ao9 y238.length co9, .int .i64 (l0.length : Int)] ?_; (with_reducible refine (slices_Repeat_int_int.calls _ _ y238 (l0.length : Int) t241 _ ?side1 ?side2 A3.out).mono ?_); (case side1 => exact zC (Kd.R_reads' HO240.out).2.2); (case side2 => exact (Kd.R_reads' HO240.out).2.1); rintro e w10 ⟨v242, rfl, ho0, hb⟩; refine ⟨_, rfl, ?_⟩; have HO243 := zM (Kd.R_lower (Kd.R_new' ho0 (Kd.R_lt (zR HO240.out))) (below_size zB)); replace HO240 := zM (Kd.R_elder' (zR HO240.out) (Kd.R_base ho0) hb); replace HB := zM (below_step zB hb); (try clear hb); (try clear hb2); (try clear hk); (try clear hi); (try clear ho0); have p6 : 0 ≤ (a1 : Int) := of_decide_eq_true zA; have q6 : (a1 : Int) < ((t241.length : Int) : Int) := of_decide_eq_true zA; obtain ⟨go6, co6, eo6, gb6, gl6, cl6, HG6⟩ := Kd.R_form HO243.out (by omega); (first | cases eo6 | (injection eo6 with ea_ en_ ec_; (first | subst ea_ | (injection ea_ with ea_; subst ea_)); subst ec_; clear en_)); have GB6 := Aside0.mk gb6; have GG6 := Aside0.mk HG6; clear gb6 gl6 HG6; obtain ⟨hx6_0, hf6_0⟩ := Kd.R_celln 0 HO243.out (a1 : Int) p6 q6; replace p6 := eq_true p6; replace q6 := eq_true q6; have n_ := zM (Kd.R_mono (ok' := (fun k_ => some k_ ≠ (.slice Ao9 y238.length co9 : Value).ownBlock)) HO243.out (fun k_ hk => hk.2)); clear HO243; have HO243 := n_; clear n_; obtain ⟨hy11_, hz11_⟩ := Kd.R_celln 0 HO243.out (a1 : Int) (of_decide_eq_true zA) (of_decide_eq_true zA); have HP11 := Kd.R_putg HO243.out (a1 : Int) 0) | ((with_reducible refine gate_store (t := 3) (p := 16) rfl ?_); refine store_event (t := 3) (p := 16) (v := ?vo_w12) (w1 := (w10.setCell ⟨go6, (a1 : Int).toNat, none⟩ (.int .i64 0))) ?hg ?ho ?hn ?hr ?_; (case ho => rfl); (case hg => rfl); (case hn => rfl); (case hr => first | (go_simp; done) | (go_simp; rfl)); intro w12 hw; have hg : w10.grownBy w12 (some go6) := (by rw [hw]; exact HP11.2); have hp_ : Kd.R (Kd.int .i64) 3 w12 w.heap.size (fun k_ => some k_ ≠ (.slice Ao9 y238.length co9 : Value).ownBlock) (.slice (some ⟨go6, 0, none⟩) t241.length co6) y244 := (by rw [hw, Ny244.out]; exact HP11.1); clear HP11; replace HO240 := zM (Kd.R_after (v := (.slice (some ⟨go6, 0, none⟩) t241.length co6)) (v1 := (.slice (some ⟨go6, 0, none⟩) t241.length co6)) (ok := (fun _ => True)) (zR HO240.out) hg (.inl rfl)); replace HO243 := zM (hp_); replace HB := zM ((by rw [hw]; exact below_set (HB.out) GB6.out : Below w.heap.size w w12)); clear hg hw hp_) | ((with_reducible refine gate_dst (N := 18) rfl ?_); refine Kd.R_lit (Kd.int .i64) _ 3 ?hg (N := 18) ?hd (xs := ([a1] : List Int)) (inner := [.int .i64 a1]) (ok := fun _ => True) (okp := fun _ => True) ?hr ?hp (fun _ hk => hk) trivial (Below.refl _ _) (Nat.le_refl _) (by simp) ?_; (case hd => rfl); (case hg => rfl); (case hr => first | (go_simp; done) | (go_simp; rfl)); (case hp => exact (Reps.one (show Kd.M (Kd.int .i64) _ _ _ a1 [.int .i64 a1] from rfl) (Reps.none _ _))); intro v246 w13 ho14 hb hg_ hnew_; clear hg_ hnew_; (first | rw [← Ny245.out] at ho14 | (simp only [Int.reduceToNat] at ho14; rw [← Ny245.out] at ho14)); have HO247 := zM (Kd.R_lower (Kd.R_new' (Kd.R_new' ho14 (Kd.R_lt (zR HO240.out))) (Kd.R_lt (zR HO243.out))) (below_size zB)); replace HO240 := zM (Kd.R_elder' (zR HO240.out) (Kd.R_base ho14) hb); replace HO243 := zM (Kd.R_elder' (zR HO243.out) (Kd.R_base ho14) hb); replace HB := zM (below_step zB hb); clear hb ho14))
     go_loopg [6] k (fun kq v6 w' => ∃ (x5_1 : List Int) (x6_1 : List Int), Aside0 (impl_spread.l0 kq l0 x5_1 x6_1 = some r) ∧ Aside0 (kq ≤ k) ∧ Aside0 (Kd.R (Kd.int .i64) 3 w' w.heap.size (fun k_ => some k_ ≠ (v6 : Value).ownBlock) (.slice (some ⟨go6, 0, none⟩) t241.length co6) x5_1) ∧ Aside0 (Kd.Q (Kd.int .i64) 3 w' w.heap.size (fun k_ => some k_ ≠ ((.slice (some ⟨go6, 0, none⟩) t241.length co6) : Value).ownBlock) v6 x6_1) ∧ Aside0 (Below w.heap.size w w'))
     case atStart => exact ⟨(y244), (y245), H', ⟨Nat.le_refl _⟩, ⟨by (with_reducible repeat (first | apply Kd.R_alloc | apply Kd.R_drewN | apply Kd.R_drew)); exact Kd.R_mono HO243.out (fun _ hk => hk.2)⟩, ⟨Kd.Q_of_R (by (with_reducible repeat (first | apply Kd.R_alloc | apply Kd.R_drewN | apply Kd.R_drew)); exact Kd.R_mono HO247.out (fun _ hk => hk.2))⟩, ⟨zB⟩⟩
     case round =>
      clear H'
      try clear c1
      try clear p2
      try clear c4
      try clear c4b0
      try clear c5
      try clear c5b0
      try clear p6
      try clear q6
      try clear hx6
      try clear hf6
      try clear c12
      try clear hx6_0
      try clear p6
      try clear q6
      obtain ⟨x5_1, x6_1, HA, HK1, HO_5, HO_6, HB⟩ := hrel
      have hl5_1 := (Kd.R_reads' HO_5.out).1
      rw [hl5_1] at HO_5
      (try simp only [hl5_1])
      (try simp only [hl5_1] at HO_6)
      cases gk with
      | zero => exact absurd HA.out (by simp [impl_spread.l0])
      | succ k1 =>
       have H := HA.out
       clear HA
       simp only [impl_spread.l0] at H
       by_cases c15 : (x6_1.length : Int) > 0
       · rw [if_pos c15] at H
         have c15b0 : decide (0 < (x6_1.length : Int)) = true := decide_eq_true c15
         have c15b1 : decide (0 < x6_1.length) = true := decide_eq_true (by omega)
         clear c15
         by_cases c16 : 0 < (x6_1.length : Int)
         · rw [if_pos c16] at H
           have c16b0 := decide_eq_true c16
           have c16b1 : decide (0 < x6_1.length) = true := decide_eq_true (by omega)
           clear c16
           by_cases c17 : 1 ≤ (x6_1.length : Int)
           · rw [if_pos c17] at H
             have c17b0 := eq_true c17
             have c17b1 : decide (1 ≤ (x6_1.length : Int)) = true := decide_eq_true c17
             clear c17
             obtain ⟨y249, hy249⟩ : ∃ y_ : List Int, y_ = (x6_1.drop (1 : Int).toNat) := ⟨_, rfl⟩
             replace H : (if 0 ≤ (rd x6_1 0) then (if (rd x6_1 0) < (l0.length : Int) then (impl_spread.l1 k1 l0 x5_1 y249 (rd x6_1 0) (rd_L1 l0 (rd x6_1 0)) ((rd_L1 l0 (rd x6_1 0)).length : Int) 0) else (none)) else (none)) = some r := by first | (rw [hy249]; with_reducible exact H) | (have H2_ := (Option.bind_some _ _).symm.trans H; rw [hy249]; with_reducible exact H2_) | (have H2_ := (Option.bind_some _ _).symm.trans H; with_reducible exact H2_) | with_reducible exact H | (rw [hy249]; exact H) | exact H
             have Ny249 := Aside0.mk hy249
             clear hy249
             by_cases c18 : 0 ≤ (rd x6_1 0)
             · rw [if_pos c18] at H
               have c18b0 := decide_eq_true c18
               clear c18
               by_cases c19 : (rd x6_1 0) < (l0.length : Int)
               · rw [if_pos c19] at H
                 have c19b0 := decide_eq_true c19
                 clear c19
                 have H' := Aside0.mk H
                 clear H
                 obtain ⟨Ao20, co20, eo20, _⟩ := Kd.Q_slice HO_6.out
                 subst eo20
                 have p248 : 0 ≤ (0 : Int) := (by omega)
                 have q248 : 0 < (x6_1.length : Int) := of_decide_eq_true zA
                 obtain ⟨ad248, e248, hx248_0⟩ := Kd.at_int (Kd.Q_reads' HO_6.out).2.2 0 p248 q248
                 cases e248
                 have qi248 : (0 < x6_1.length) = True := eq_true (by omega)
                 (try rw [show ((0 : Int)).toNat = 0 from rfl] at hx248_0)
                 (try rw [Addr.add_zero'] at hx248_0)
                 replace p248 := eq_true p248
                 replace q248 := eq_true q248
                 have q21 : (1 : Int) ≤ ((x6_1.length : Int) : Int) := of_decide_eq_true zA
                 obtain ⟨i021, hi021, _, hsz21, _⟩ := info_parts info3
                 have hcut21 := cut_from (P := Try.prog) 27 3 .i64 Try.underlying27 hi021 1 hsz21 (some ad248) x6_1.length co20 1 (by omega) q21
                 have hr21 := Kd.Q_drop (k := (1 : Int).toNat) HO_6.out (by omega)
                 obtain ⟨A21, hA21⟩ : ∃ A1, A1 = (if co20 = (1 : Int).toNat then (some ad248) else ((some ad248) : Option Addr).map (·.add ((1 : Int).toNat * 1))) := ⟨_, rfl⟩
                 obtain ⟨c21, hc21⟩ : ∃ c1, c1 = co20 - (1 : Int).toNat := ⟨_, rfl⟩
                 have hy21 : y249.length = x6_1.length - (1 : Int).toNat := (by rw [Ny249.out, List.length_drop])
                 rw [← Ny249.out] at hr21
                 rw [← hy21, ← hA21, ← hc21] at hcut21
                 replace hr21 : Kd.Q (Kd.int .i64) 3 wr w.heap.size (fun k_ => some k_ ≠ (.slice (some ⟨go6, 0, none⟩) x5_1.length co6 : Value).ownBlock) (.slice A21 y249.length c21) y249 := (by rw [hA21, hc21, hy21]; exact hr21)
                 have HE21 : Aside0 ((Value.slice A21 y249.length c21).ownBlock = (.slice (some ad248) x6_1.length co20 : Value).ownBlock) := ⟨by rw [hA21]; split <;> (cases ((some ad248) : Option Addr) <;> rfl)⟩
                 clear hy21 hi021 hsz21 HO_6 hA21 hc21
                 have HO251 := Aside0.mk hr21
                 clear hr21
                 replace q21 := eq_true q21
                 have n_ := zM (Kd.R_mono (ok' := fun k_ => some k_ ≠ (.slice A21 y249.length c21 : Value).ownBlock) HO_5.out (fun k_ hk => (by rw [HE21.out]; exact hk)))
                 clear HO_5
                 have HO_5 := n_
                 clear n_
                 have p252 : 0 ≤ ((rd x6_1 0) : Int) := of_decide_eq_true zA
                 have q252 : (rd x6_1 0) < (l0.length : Int) := of_decide_eq_true zA
                 obtain ⟨ad252, A252_0, c252_0, e252, hx252_0, hl252_0, hi252_0⟩ := at_L1 HR0.out (rd x6_1 0) p252 q252
                 cases e252
                 (try replace hx252_0 := (HB.out.cell (World.block_lt_of_cell? w _ hx252_0)).trans hx252_0)
                 have HR252_0 := Aside0.mk hi252_0
                 have HC252_0 := Aside0.mk hl252_0
                 clear hi252_0 hl252_0
                 replace p252 := eq_true p252
                 replace q252 := eq_true q252
                 go_wp2
                 go_loopg [6, 32] k1 (fun kq v6 v32 w' => ∃ (x5_2 : List Int) (x6_2 : List Int) (x32_2 : Int), v32 = .int .i64 x32_2 ∧ Aside0 (impl_spread.l1 kq l0 x5_2 x6_2 (rd x6_1 0) (rd_L1 l0 (rd x6_1 0)) ((rd_L1 l0 (rd x6_1 0)).length : Int) x32_2 = some r) ∧ Aside0 (kq ≤ k1) ∧ Aside0 (Kd.R (Kd.int .i64) 3 w' w.heap.size (fun k_ => some k_ ≠ (v6 : Value).ownBlock) (.slice (some ⟨go6, 0, none⟩) x5_1.length co6) x5_2) ∧ Aside0 (Kd.Q (Kd.int .i64) 3 w' w.heap.size (fun k_ => some k_ ≠ ((.slice (some ⟨go6, 0, none⟩) x5_1.length co6) : Value).ownBlock) v6 x6_2) ∧ Aside0 (Below w.heap.size w w'))
                 case atStart => exact ⟨(x5_1), (y249), (0), (by first | rfl | (simp; done) | (simp [*]; done)), H', ⟨Nat.le_refl _⟩, ⟨by (try simp only [hl5_1]); (with_reducible repeat (first | apply Kd.R_alloc | apply Kd.R_drewN | apply Kd.R_drew)); exact HO_5.out⟩, ⟨by (try simp only [hl5_1]); (with_reducible repeat (first | apply Kd.Q_alloc | apply Kd.Q_drewN | apply Kd.Q_drew)); exact HO251.out⟩, ⟨zB⟩⟩
                 case round =>
                  clear H'
                  try clear c1
                  try clear c2
                  try clear p2
                  try clear q2
                  try clear hx2
                  try clear qi2
                  try clear c4
                  try clear c4b0
                  try clear c5
                  try clear c5b0
                  try clear p6
                  try clear q6
                  try clear hx6
                  try clear hf6
                  try clear c12
                  try clear c15
                  try clear c15b0
                  try clear c15b1
                  try clear c16
                  try clear c16b0
                  try clear c16b1
                  try clear c17
                  try clear c17b0
                  try clear c17b1
                  try clear c18
                  try clear c18b0
                  try clear c19
                  try clear c19b0
                  try clear c21
                  try clear q21
                  try clear hx248_0
                  try clear hx252_0
                  try clear hx6_0
                  try clear p2
                  try clear p248
                  try clear p252
                  try clear p6
                  try clear q21
                  try clear q248
                  try clear q252
                  try clear q6
                  obtain ⟨x5_2, x6_2, x32_2, rfl, HA, HK2, HO_5, HO_6, HB⟩ := hrel
                  have hl5_2 := (Kd.R_reads' HO_5.out).1
                  rw [hl5_2] at HO_5
                  (try simp only [hl5_2])
                  (try simp only [hl5_2] at HO_6)
                  cases gk with
                  | zero => exact absurd HA.out (by simp [impl_spread.l1])
                  | succ k2 =>
                   have H := HA.out
                   clear HA
                   simp only [impl_spread.l1] at H
                   by_cases c22 : x32_2 < ((rd_L1 l0 (rd x6_1 0)).length : Int)
                   · rw [if_pos c22] at H
                     have c22b0 := decide_eq_true c22
                     clear c22
                     by_cases c23 : 0 ≤ x32_2
                     · rw [if_pos c23] at H
                       have c23b0 := decide_eq_true c23
                       clear c23
                       by_cases c24 : x32_2 < ((rd_L1 l0 (rd x6_1 0)).length : Int)
                       · rw [if_pos c24] at H
                         have c24b0 := decide_eq_true c24
                         clear c24
                         by_cases c25 : 0 ≤ (rd (rd_L1 l0 (rd x6_1 0)) x32_2)
                         · rw [if_pos c25] at H
                           have c25b0 := decide_eq_true c25
                           clear c25
                           by_cases c26 : (rd (rd_L1 l0 (rd x6_1 0)) x32_2) < (x5_2.length : Int)
                           · rw [if_pos c26] at H
                             have c26b0 := decide_eq_true c26
                             clear c26
                             by_cases c27 : (rd x5_2 (rd (rd_L1 l0 (rd x6_1 0)) x32_2)) < 0
                             · rw [if_pos c27] at H
                               have c27b0 := decide_eq_true c27
                               clear c27
                               by_cases c28 : 0 ≤ (rd x6_1 0)
                               · rw [if_pos c28] at H
                                 have c28b0 := decide_eq_true c28
                                 clear c28
                                 by_cases c29 : (rd x6_1 0) < (x5_2.length : Int)
                                 · rw [if_pos c29] at H
                                   have c29b0 := decide_eq_true c29
                                   clear c29
                                   obtain ⟨y256, hy256⟩ : ∃ y_ : List Int, y_ = (x5_2.set ((rd (rd_L1 l0 (rd x6_1 0)) x32_2) : Int).toNat (wrap64 ((rd x5_2 (rd x6_1 0)) + 1))) := ⟨_, rfl⟩
                                   replace H : (if x6_2.length < 17592186044416 then (impl_spread.l1 k2 l0 y256 (x6_2 ++ [rd (rd_L1 l0 (rd x6_1 0)) x32_2]) (rd x6_1 0) (rd_L1 l0 (rd x6_1 0)) ((rd_L1 l0 (rd x6_1 0)).length : Int) (wrap64 (x32_2 + 1))) else (none)) = some r := by first | (rw [hy256]; with_reducible exact H) | (have H2_ := (Option.bind_some _ _).symm.trans H; rw [hy256]; with_reducible exact H2_) | (have H2_ := (Option.bind_some _ _).symm.trans H; with_reducible exact H2_) | with_reducible exact H | (rw [hy256]; exact H) | exact H
                                   have Ny256 := Aside0.mk hy256
                                   clear hy256
                                   by_cases c31 : x6_2.length < 17592186044416
                                   · rw [if_pos c31] at H
                                     have LMc31 := Aside0.mk c31
                                     clear c31
                                     obtain ⟨y257, hy257⟩ : ∃ y_ : List Int, y_ = (x6_2 ++ [rd (rd_L1 l0 (rd x6_1 0)) x32_2]) := ⟨_, rfl⟩
                                     replace H : (impl_spread.l1 k2 l0 y256 y257 (rd x6_1 0) (rd_L1 l0 (rd x6_1 0)) ((rd_L1 l0 (rd x6_1 0)).length : Int) (wrap64 (x32_2 + 1))) = some r := by first | (rw [hy257]; with_reducible exact H) | (have H2_ := (Option.bind_some _ _).symm.trans H; rw [hy257]; with_reducible exact H2_) | (have H2_ := (Option.bind_some _ _).symm.trans H; with_reducible exact H2_) | with_reducible exact H | (rw [hy257]; exact H) | exact H
                                     have Ny257 := Aside0.mk hy257
                                     clear hy257
                                     have H' := Aside0.mk H
                                     clear H
                                     have p253 : 0 ≤ (x32_2 : Int) := of_decide_eq_true zA
                                     have q253 : x32_2 < ((rd_L1 l0 (rd x6_1 0)).length : Int) := of_decide_eq_true zA
                                     obtain ⟨ad253, e253, hx253_0⟩ := Kd.at_int HR252_0.out x32_2 p253 q253
                                     cases e253
                                     (try replace hx253_0 := (HB.out.cell (World.block_lt_of_cell? w _ hx253_0)).trans hx253_0)
                                     replace p253 := eq_true p253
                                     replace q253 := eq_true q253
                                     have p254 : 0 ≤ ((rd (rd_L1 l0 (rd x6_1 0)) x32_2) : Int) := of_decide_eq_true zA
                                     have q254 : (rd (rd_L1 l0 (rd x6_1 0)) x32_2) < (x5_2.length : Int) := of_decide_eq_true zA
                                     obtain ⟨ad254, e254, hx254_0⟩ := Kd.at_int (Kd.R_reads' HO_5.out).2.2 (rd (rd_L1 l0 (rd x6_1 0)) x32_2) p254 q254
                                     obtain rfl : (⟨go6, 0, none⟩ : Addr) = ad254 := (by injection e254)
                                     (first | simp only [add_plain] at hx254_0 | simp only [add_at] at hx254_0 | simp only [Addr.add, Nat.zero_add] at hx254_0 | skip)
                                     replace p254 := eq_true p254
                                     replace q254 := eq_true q254
                                     have p255 : 0 ≤ ((rd x6_1 0) : Int) := of_decide_eq_true zA
                                     have q255 : (rd x6_1 0) < (x5_2.length : Int) := of_decide_eq_true zA
                                     obtain ⟨ad255, e255, hx255_0⟩ := Kd.at_int (Kd.R_reads' HO_5.out).2.2 (rd x6_1 0) p255 q255
                                     obtain rfl : (⟨go6, 0, none⟩ : Addr) = ad255 := (by injection e255)
                                     (first | simp only [add_plain] at hx255_0 | simp only [add_at] at hx255_0 | simp only [Addr.add, Nat.zero_add] at hx255_0 | skip)
                                     replace p255 := eq_true p255
                                     replace q255 := eq_true q255
                                     have p30 : 0 ≤ ((rd (rd_L1 l0 (rd x6_1 0)) x32_2) : Int) := of_decide_eq_true zA
                                     have q30 : ((rd (rd_L1 l0 (rd x6_1 0)) x32_2) : Int) < ((x5_2.length : Int) : Int) := of_decide_eq_true zA
                                     obtain ⟨hx30_0, hf30_0⟩ := Kd.R_celln 0 HO_5.out ((rd (rd_L1 l0 (rd x6_1 0)) x32_2) : Int) p30 q30
                                     replace p30 := eq_true p30
                                     replace q30 := eq_true q30
                                     have HP32 := Kd.R_putg HO_5.out ((rd (rd_L1 l0 (rd x6_1 0)) x32_2) : Int) (wrap64 ((rd x5_2 (rd x6_1 0)) + 1))
                                     go_wp2_with (first | ((with_reducible refine gate_store (t := 3) (p := 48) rfl ?_); refine store_event (t := 3) (p := 48) (v := ?vo_w33) (w1 := (wr.setCell ⟨go6, ((rd (rd_L1 l0 (rd x6_1 0)) x32_2) : Int).toNat, none⟩ (.int .i64 (wrap64 ((rd x5_2 (rd x6_1 0)) + 1))))) ?hg ?ho ?hn ?hr ?_; (case ho => rfl); (case hg => rfl); (case hn => rfl); (case hr => first | (go_simp; done) | (go_simp; rfl)); intro w33 hw; have hg : wr.grownBy w33 (some go6) := (by rw [hw]; exact HP32.2); have hp_ : Kd.R (Kd.int .i64) 3 w33 w.heap.size (fun k_ => some k_ ≠ (u6 : Value).ownBlock) (.slice (some ⟨go6, 0, none⟩) x5_2.length co6) y256 := (by rw [hw, Ny256.out]; exact HP32.1); clear HP32; replace HO_5 := zM (hp_); replace HO_6 := zM (Kd.Q_after (v := (.slice (some ⟨go6, 0, none⟩) x5_2.length co6)) (v1 := (.slice (some ⟨go6, 0, none⟩) x5_2.length co6)) (ok := (fun _ => True)) (by (with_reducible repeat (first | apply Kd.Q_alloc | apply Kd.Q_drewN | apply Kd.Q_drew)); exact Kd.Q_mono HO_6.out (fun _ hk => ⟨trivial, hk⟩)) hg (.inl rfl)); replace HB := zM ((by rw [hw]; exact below_set (HB.out) GB6.out : Below w.heap.size w w33)); clear hg hw hp_) | ((with_reducible refine gate_builtin (b := .append) (xs := #[.tmp 49, .tmp 51]) rfl ?_); at_builtin; refine Kd.Q_append (Kd.int .i64) (w0 := w) w.heap.size rfl (.tmp 49) (.tmp 51) 27 3 (.int .i64 0) 8 rfl Try.underlying27 info3 rfl (by decide) (by omega) u6 x6_2 (rd (rd_L1 l0 (rd x6_1 0)) x32_2) [.int .i64 (rd (rd_L1 l0 (rd x6_1 0)) x32_2)] (fun k_ => some k_ ≠ (.slice (some ⟨go6, 0, none⟩) x5_2.length co6 : Value).ownBlock) (fun _ => False) rfl rfl ?aP (fun _ hk => hk.elim) ?aF ?aO ?aB ?aS ?aL ?_; (case aP => exact rfl); (case aB => exact zB); (case aF => exact (fun k_ hk => Kd.fresh' (Kd.R_lt (zR HO_5.out)) k_ hk)); (case aO => exact (by (with_reducible repeat (first | apply Kd.Q_alloc | apply Kd.Q_drewN | apply Kd.Q_drew)); exact Kd.Q_mono HO_6.out (fun _ hk => hk.2))); (case aS => exact (below_size zB)); (case aL => have := LMc31.out; omega); intro v258 w34 ho hb hg hat; rw [← Ny257.out] at ho; replace HO_5 := zM (Kd.R_after (ok := (fun _ => True)) (by (with_reducible repeat (first | apply Kd.R_alloc | apply Kd.R_drewN | apply Kd.R_drew)); exact Kd.R_mono HO_5.out (fun _ hk => ⟨trivial, hk⟩)) hg hat); replace HB := zM (hb); have HO259 := zM (ho); clear HO_6; clear ho hb hg hat))
                                     (try simp only [← hl5_2])
                                     go_roundg k2
                                     case measure => have := HK1.out; have := HK2.out; omega
                                     case rel => exact ⟨(y256), (y257), (wrap64 (x32_2 + 1)), (by first | rfl | (simp; done) | (simp [*]; done)), H', ⟨by have := HK1.out; have := HK2.out; omega⟩, ⟨by (try simp only [hl5_1]); (try simp only [hl5_2]); (with_reducible repeat (first | apply Kd.R_alloc | apply Kd.R_drewN | apply Kd.R_drew)); exact Kd.R_mono HO_5.out (fun _ hk => hk.2)⟩, ⟨by (try simp only [hl5_1]); (try simp only [hl5_2]); (with_reducible repeat (first | apply Kd.Q_alloc | apply Kd.Q_drewN | apply Kd.Q_drew)); exact HO259.out⟩, ⟨zB⟩⟩
                                   · rw [if_neg c31] at H
                                     exact absurd H (by simp)
                                 · rw [if_neg c29] at H
                                   exact absurd H (by simp)
                               · rw [if_neg c28] at H
                                 exact absurd H (by simp)
                             · rw [if_neg c27] at H
                               have c27b0 : decide ((rd x5_2 (rd (rd_L1 l0 (rd x6_1 0)) x32_2)) < 0) = false := decide_eq_false c27
                               clear c27
                               have H' := Aside0.mk H
                               clear H
                               have p253 : 0 ≤ (x32_2 : Int) := of_decide_eq_true zA
                               have q253 : x32_2 < ((rd_L1 l0 (rd x6_1 0)).length : Int) := of_decide_eq_true zA
                               obtain ⟨ad253, e253, hx253_0⟩ := Kd.at_int HR252_0.out x32_2 p253 q253
                               cases e253
                               (try replace hx253_0 := (HB.out.cell (World.block_lt_of_cell? w _ hx253_0)).trans hx253_0)
                               replace p253 := eq_true p253
                               replace q253 := eq_true q253
                               have p254 : 0 ≤ ((rd (rd_L1 l0 (rd x6_1 0)) x32_2) : Int) := of_decide_eq_true zA
                               have q254 : (rd (rd_L1 l0 (rd x6_1 0)) x32_2) < (x5_2.length : Int) := of_decide_eq_true zA
                               obtain ⟨ad254, e254, hx254_0⟩ := Kd.at_int (Kd.R_reads' HO_5.out).2.2 (rd (rd_L1 l0 (rd x6_1 0)) x32_2) p254 q254
                               obtain rfl : (⟨go6, 0, none⟩ : Addr) = ad254 := (by injection e254)
                               (first | simp only [add_plain] at hx254_0 | simp only [add_at] at hx254_0 | simp only [Addr.add, Nat.zero_add] at hx254_0 | skip)
                               replace p254 := eq_true p254
                               replace q254 := eq_true q254
                               go_wp2
                               (try simp only [← hl5_2])
                               go_roundg k2
                               case measure => have := HK1.out; have := HK2.out; omega
                               case rel => exact ⟨(x5_2), (x6_2), (wrap64 (x32_2 + 1)), (by first | rfl | (simp; done) | (simp [*]; done)), H', ⟨by have := HK1.out; have := HK2.out; omega⟩, ⟨by (try simp only [hl5_1]); (try simp only [hl5_2]); (with_reducible repeat (first | apply Kd.R_alloc | apply Kd.R_drewN | apply Kd.R_drew)); exact HO_5.out⟩, ⟨by (try simp only [hl5_1]); (try simp only [hl5_2]); (with_reducible repeat (first | apply Kd.Q_alloc | apply Kd.Q_drewN | apply Kd.Q_drew)); exact HO_6.out⟩, ⟨zB⟩⟩
                           · rw [if_neg c26] at H
                             exact absurd H (by simp)
                         · rw [if_neg c25] at H
                           exact absurd H (by simp)
                       · rw [if_neg c24] at H
                         exact absurd H (by simp)
                     · rw [if_neg c23] at H
                       exact absurd H (by simp)
                   · rw [if_neg c22] at H
                     have c22b0 : decide (x32_2 < ((rd_L1 l0 (rd x6_1 0)).length : Int)) = false := decide_eq_false c22
                     clear c22
                     have H' := Aside0.mk H
                     clear H
                     go_wp2
                     (try simp only [← hl5_1, ← hl5_2])
                     go_roundg k2
                     case measure => have := HK1.out; have := HK2.out; omega
                     case rel => exact ⟨(x5_2), (x6_2), H', ⟨by have := HK1.out; have := HK2.out; omega⟩, ⟨by (try simp only [hl5_1]); (try simp only [hl5_2]); (with_reducible repeat (first | apply Kd.R_alloc | apply Kd.R_drewN | apply Kd.R_drew)); exact HO_5.out⟩, ⟨by (try simp only [hl5_1]); (try simp only [hl5_2]); (with_reducible repeat (first | apply Kd.Q_alloc | apply Kd.Q_drewN | apply Kd.Q_drew)); exact HO_6.out⟩, ⟨zB⟩⟩
               · rw [if_neg c19] at H
                 exact absurd H (by simp)
             · rw [if_neg c18] at H
               exact absurd H (by simp)
           · rw [if_neg c17] at H
             exact absurd H (by simp)
         · rw [if_neg c16] at H
           exact absurd H (by simp)
       · rw [if_neg c15] at H
         have c15b0 : decide (0 < (x6_1.length : Int)) = false := decide_eq_false c15
         have c15b1 : decide (0 < x6_1.length) = false := decide_eq_false (by omega)
         clear c15
         obtain rfl := Option.some.inj H
         obtain ⟨Ao35, co35, eo35, _⟩ := Kd.Q_slice HO_6.out
         subst eo35
         go_wp2
         go_ret
         exact ⟨_, by first | rfl | (simp [errW_none, errW_some] <;> rfl) | (simp [*, errW_none, errW_some] <;> rfl), by (with_reducible repeat (first | apply Kd.R_alloc | apply Kd.R_drewN | apply Kd.R_drew)); exact Kd.R_mono HO_5.out (fun _ hk => trivial), zB⟩
   · rw [if_neg c5] at H
     exact absurd H (by simp)
 · rw [if_neg c4] at H
   exact absurd H (by simp)

/-! ### laws_eqIntS: function 19 -/
def laws_eqIntS.l0 : Nat → List Int → List Int → Int → Option (Bool)
 | 0, _, _, _ => none
 | k + 1, x0, x1, x5 => if x5 < (x0.length : Int) then (if 0 ≤ x5 then (if x5 < (x1.length : Int) then (if (rd x0 x5) = (rd x1 x5) then (laws_eqIntS.l0 k x0 x1 (wrap64 (x5 + 1))) else (some false)) else (none)) else (none)) else (some true)
def laws_eqIntS.f (k : Nat) (l0 : List Int) (l1 : List Int) : Option (Bool) := if (l0.length : Int) = (l1.length : Int) then (laws_eqIntS.l0 k l0 l1 0) else (some false)
set_option maxHeartbeats 8000000 in
set_option maxRecDepth 100000 in
theorem laws_eqIntS.calls (k : Nat) (A0 : Option Addr) (c0 : Nat) (l0 : List Int) (A1 : Option Addr) (c1 : Nat) (l1 : List Int) (r : Bool) (w : World) (hr0 : Kd.C (Kd.int .i64) w A0 l0.length l0) (hc0 : l0.length ≤ c0) (hr1 : Kd.C (Kd.int .i64) w A1 l1.length l1) (hc1 : l1.length ≤ c1) (h : laws_eqIntS.f k l0 l1 = some r) :
 Calls Try.prog 19 #[.slice A0 l0.length c0, .slice A1 l1.length c1] w fun e w' => e = .returned (.bool r) ∧ Drawn0 w w' := by
 have HR0 := Aside0.mk hr0
 have HC0 := Aside0.mk hc0
 clear hr0 hc0
 have HR1 := Aside0.mk hr1
 have HC1 := Aside0.mk hc1
 clear hr1 hc1
 have H : (if (l0.length : Int) = (l1.length : Int) then (laws_eqIntS.l0 k l0 l1 0) else (some false)) = some r := h
 clear h
 by_cases c3 : (l0.length : Int) = (l1.length : Int)
 · rw [if_pos c3] at H
   have c3b0 : ((l0.length : Int) == (l1.length : Int)) = true := beq_iff_eq.mpr c3
   have c3b1 : ((l0.length : Int) != (l1.length : Int)) = false := bne_eq_false_iff_eq.mpr c3
   have c3b2 : (l0.length == l1.length) = true := by first | simpa using c3 | (simp at c3 ⊢; omega)
   clear c3
   have H' := Aside0.mk H
   clear H
   go_enter Try.func19, Try.ntmps19
   go_wp2
   repeat (go_quiet (fail); try go_wp2)
   go_loopg [5] k (fun kq v5 w' => ∃ (x5_1 : Int), v5 = .int .i64 x5_1 ∧ Aside0 (laws_eqIntS.l0 kq l0 l1 x5_1 = some r) ∧ Aside0 (kq ≤ k) ∧ Drawn0 w w')
   case atStart => exact ⟨(0), (by first | rfl | (simp; done) | (simp [*]; done)), H', ⟨Nat.le_refl _⟩, by repeat (first | exact Drawn0.refl _ | apply Drawn0.step)⟩
   case round =>
    clear H'
    try clear c1
    try clear p2
    try clear c3
    try clear c3b0
    try clear c3b1
    try clear c3b2
    obtain ⟨x5_1, rfl, HA, HK1, ⟨m1, rfl⟩⟩ := hrel
    cases gk with
    | zero => exact absurd HA.out (by simp [laws_eqIntS.l0])
    | succ k1 =>
     have H := HA.out
     clear HA
     simp only [laws_eqIntS.l0] at H
     by_cases c4 : x5_1 < (l0.length : Int)
     · rw [if_pos c4] at H
       have c4b0 := decide_eq_true c4
       clear c4
       by_cases c5 : 0 ≤ x5_1
       · rw [if_pos c5] at H
         have c5b0 := decide_eq_true c5
         clear c5
         by_cases c6 : x5_1 < (l1.length : Int)
         · rw [if_pos c6] at H
           have c6b0 := decide_eq_true c6
           clear c6
           by_cases c7 : (rd l0 x5_1) = (rd l1 x5_1)
           · rw [if_pos c7] at H
             have c7b0 : ((rd l0 x5_1) == (rd l1 x5_1)) = true := beq_iff_eq.mpr c7
             have c7b1 : ((rd l0 x5_1) != (rd l1 x5_1)) = false := bne_eq_false_iff_eq.mpr c7
             clear c7
             have H' := Aside0.mk H
             clear H
             have p269 : 0 ≤ (x5_1 : Int) := of_decide_eq_true zA
             have q269 : x5_1 < (l0.length : Int) := of_decide_eq_true zA
             obtain ⟨ad269, e269, hx269_0⟩ := Kd.at_int HR0.out x5_1 p269 q269
             cases e269
             replace p269 := eq_true p269
             replace q269 := eq_true q269
             have p270 : 0 ≤ (x5_1 : Int) := of_decide_eq_true zA
             have q270 : x5_1 < (l1.length : Int) := of_decide_eq_true zA
             obtain ⟨ad270, e270, hx270_0⟩ := Kd.at_int HR1.out x5_1 p270 q270
             cases e270
             replace p270 := eq_true p270
             replace q270 := eq_true q270
             go_wp2
             repeat (go_quiet (fail); try go_wp2)
             go_roundg k1
             case measure => have := HK1.out; omega
             case rel => exact ⟨(wrap64 (x5_1 + 1)), (by first | rfl | (simp; done) | (simp [*]; done)), H', ⟨by have := HK1.out; omega⟩, by repeat (first | exact Drawn0.refl _ | apply Drawn0.step)⟩
           · rw [if_neg c7] at H
             have c7b0 : ((rd l0 x5_1) == (rd l1 x5_1)) = false := beq_eq_false_iff_ne.mpr c7
             have c7b1 : ((rd l0 x5_1) != (rd l1 x5_1)) = true := bne_iff_ne.mpr c7
             obtain rfl := Option.some.inj H
             have p269 : 0 ≤ (x5_1 : Int) := of_decide_eq_true zA
             have q269 : x5_1 < (l0.length : Int) := of_decide_eq_true zA
             obtain ⟨ad269, e269, hx269_0⟩ := Kd.at_int HR0.out x5_1 p269 q269
             cases e269
             replace p269 := eq_true p269
             replace q269 := eq_true q269
             have p270 : 0 ≤ (x5_1 : Int) := of_decide_eq_true zA
             have q270 : x5_1 < (l1.length : Int) := of_decide_eq_true zA
             obtain ⟨ad270, e270, hx270_0⟩ := Kd.at_int HR1.out x5_1 p270 q270
             cases e270
             replace p270 := eq_true p270
             replace q270 := eq_true q270
             go_wp2
             repeat (go_quiet (fail); try go_wp2)
             go_ret
             exact ⟨by first | rfl | (simp; done) | (simp [*]; done), by repeat (first | exact Drawn0.refl _ | apply Drawn0.step)⟩
         · rw [if_neg c6] at H
           exact absurd H (by simp)
       · rw [if_neg c5] at H
         exact absurd H (by simp)
     · rw [if_neg c4] at H
       have c4b0 : decide (x5_1 < (l0.length : Int)) = false := decide_eq_false c4
       clear c4
       obtain rfl := Option.some.inj H
       go_wp2
       repeat (go_quiet (fail); try go_wp2)
       go_ret
       exact ⟨by first | rfl | (simp; done) | (simp [*]; done), by repeat (first | exact Drawn0.refl _ | apply Drawn0.step)⟩
 · rw [if_neg c3] at H
   have c3b0 : ((l0.length : Int) == (l1.length : Int)) = false := beq_eq_false_iff_ne.mpr c3
   have c3b1 : ((l0.length : Int) != (l1.length : Int)) = true := bne_iff_ne.mpr c3
   have c3b2 : (l0.length == l1.length) = false := by first | simpa using c3 | (simp at c3 ⊢; omega)
   obtain rfl := Option.some.inj H
   go_enter Try.func19, Try.ntmps19
   go_wp2
   repeat (go_quiet (fail); try go_wp2)
   go_ret
   exact ⟨by first | rfl | (simp; done) | (simp [*]; done), by repeat (first | exact Drawn0.refl _ | apply Drawn0.step)⟩

end Go.Proofs.Ytmhoemdclnlgaaa.P
