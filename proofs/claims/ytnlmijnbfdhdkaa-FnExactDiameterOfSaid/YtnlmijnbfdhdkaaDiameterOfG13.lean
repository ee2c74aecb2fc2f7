/- The contract of slices.Repeat of a list of one number: the library's own text is walked. -/
import Derived.Test.YtnlmijnbfdhdkaaDiameterOfG4
import Derived.Test.YtnlmijnbfdhdkaaDiameterOfG10
import Derived.Handy
namespace Go.Proofs.Ytnlmijnbfdhdkaa.P
open Go.RowKit Go.Proofs.YtnlmijnbfdhdkaaW.PrintWords Go.Proofs.YtnlmijnbfdhdkaaW.PrintLast Go.Proofs.YtnlmijnbfdhdkaaW.PrintMore
set_option linter.unusedVariables false
set_option linter.unusedSimpArgs false
set_option maxRecDepth 100000 in
theorem rep_cells {W : World} {base g n cap m : Nat} {x : Int} (HO : Kd.R (Kd.int .i64) 3 W base (fun _ => True) (.slice (some ⟨g, 0, none⟩) n cap) (List.replicate m x ++ List.replicate (n - m) 0)) (hm : m ≤ n) (ty : TypeId) (sCap dCap : Nat) :
    (Builtin.copy_ #[25, 25] ty #[.slice (some ⟨g, m, none⟩) (n - m) dCap, .slice (some ⟨g, 0, none⟩) m sCap]).run Try.prog W = .ok (.int .i64 ((min m (n - m) : Nat) : Int)) (W.setCells g m (List.replicate (min m (n - m)) (Value.int .i64 x))) ∧
    Kd.R (Kd.int .i64) 3 (W.setCells g m (List.replicate (min m (n - m)) (Value.int .i64 x))) base (fun _ => True) (.slice (some ⟨g, 0, none⟩) n cap) (List.replicate (m + min m (n - m)) x ++ List.replicate (n - (m + min m (n - m))) 0) ∧
    W.grownBy (W.setCells g m (List.replicate (min m (n - m)) (Value.int .i64 x))) (some g) := by
  have hown := Kd.own_of_R (enc := Value.int .i64) HO
  have hln : (List.replicate m x ++ List.replicate (n - m) (0 : Int)).length = n := by rw [List.length_append, List.length_replicate, List.length_replicate]; omega
  rcases hown.2 with ⟨h0, _⟩ | ⟨g', cap', cur, hv, hbase, hh, h1, h2, h3, h4⟩
  · cases h0
  injection hv with e1 e2 e3
  injection e1 with e1
  injection e1 with e1 _
  subst e1; subst e3
  rw [hln] at h1 h4
  rw [Nat.mul_one] at h3 h4
  have hget : ∀ j, j < m → W.cell? ⟨g, j, none⟩ = some (Value.int .i64 x) := fun j hj => by
    have e5 : (cur.toList.take n)[j]? = some (Value.int .i64 x) := by
      rw [h4]
      simp [encs, List.getElem?_append_left, hj]
    rw [List.getElem?_take_of_lt (by omega), Array.getElem?_toList] at e5
    simp [World.cell?, hh, e5]
  have hr := run_copy_cells (P := Try.prog) W 25 25 ty 3 g m (n - m) dCap ⟨g, 0, none⟩ m sCap (List.replicate (min m (n - m)) (Value.int .i64 x)) Try.underlying25 (by kernel_rfl) (List.length_replicate ..)
    (fun j v hj => by
      rw [List.getElem?_replicate] at hj
      by_cases c : j < min m (n - m)
      · rw [if_pos c] at hj
        rw [← hj, add_plain]
        exact hget j (by omega)
      · rw [if_neg c] at hj; cases hj)
    (fun j hj => by
      rw [List.length_replicate] at hj
      have : m + j < cur.size := by omega
      simp [World.cell?, hh, this])
    (fun j _ => blk_frozen hh _) (fun v hv => by rw [(List.mem_replicate.1 hv).2]; rfl)
  obtain ⟨cur', k1, k2, k3⟩ := setCells_row (List.replicate (min m (n - m)) (Value.int .i64 x)) m W cur hh (by rw [List.length_replicate]; omega)
  obtain ⟨s1, s2, s3, s4⟩ := setCells_same g (List.replicate (min m (n - m)) (Value.int .i64 x)) m W
  refine ⟨by rw [hr, List.length_replicate]; rfl, Kd.R_of_own (enc := Value.int .i64) ?_ (fun _ _ => trivial), ⟨s1, s2, s3, by rw [s4]; exact Nat.le_refl _, fun k _ hk => setCells_far _ _ k (fun he => hk (by rw [he]))⟩⟩
  have hln2 : (List.replicate (m + min m (n - m)) x ++ List.replicate (n - (m + min m (n - m))) (0 : Int)).length = n := by rw [List.length_append, List.length_replicate, List.length_replicate]; omega
  rw [hln2]
  refine ⟨by rw [encs_length, hln2, Nat.mul_one], .inr ⟨g, cap, cur', rfl, hbase, k1, h1, h2, by rw [k2, h3, Nat.mul_one], ?_⟩⟩
  rw [k3, Nat.mul_one, List.length_replicate]
  have ht : cur.toList.take n = List.replicate m (Value.int .i64 x) ++ List.replicate (n - m) (Value.int .i64 0) := by rw [h4]; simp [encs]
  have hcl : cur.toList.length = cap := by rw [Array.length_toList]; exact h3
  apply List.ext_getElem?
  intro j
  have hj0 : ∀ j, j < n → cur.toList[j]? = (List.replicate m (Value.int .i64 x) ++ List.replicate (n - m) (Value.int .i64 0))[j]? := fun j hj => by rw [← ht, List.getElem?_take_of_lt hj]
  by_cases cj : j < n
  · rw [List.getElem?_take_of_lt cj, List.append_assoc]
    by_cases c1 : j < m
    · rw [List.getElem?_append_left (by rw [List.length_take]; omega), List.getElem?_take_of_lt c1, hj0 j cj]
      simp [encs, List.getElem?_append, List.getElem?_replicate, c1, show j < m + min m (n - m) by omega]
    · rw [List.getElem?_append_right (by rw [List.length_take]; omega), List.length_take, show min m cur.toList.length = m by omega]
      by_cases c2 : j < m + min m (n - m)
      · rw [List.getElem?_append_left (by rw [List.length_replicate]; omega)]
        simp [encs, List.getElem?_append, List.getElem?_replicate, c2, show j - m < min m (n - m) by omega]
      · rw [List.getElem?_append_right (by rw [List.length_replicate]; omega), List.length_replicate, List.getElem?_drop, show m + min m (n - m) + (j - m - min m (n - m)) = j by omega, hj0 j cj]
        simp [encs, List.getElem?_append, List.getElem?_replicate, c1, c2, show j - m < n - m by omega]
        omega
  · rw [List.getElem?_take_eq_none (by omega), List.getElem?_eq_none (by rw [encs_length, hln2]; omega)]
set_option maxRecDepth 100000 in
set_option maxHeartbeats 2000000 in
theorem rep_calls (A0 : Option Addr) (c0 : Nat) (x : Int) (n : Nat) (hn : n ≤ 1048576) (w : World) (hr0 : Kd.C (Kd.int .i64) w A0 1 [x]) (hc0 : 1 ≤ c0) :
    Calls Try.prog 120 #[.slice A0 1 c0, .int .i64 (n : Int)] w fun e w' => ∃ v0_ : Value, e = .returned (v0_) ∧ Kd.R (Kd.int .i64) 3 w' w.heap.size (fun _ => True) v0_ (List.replicate n x) ∧ Below w.heap.size w w' := by
  have HR := Aside0.mk hr0
  have HC := Aside0.mk hc0
  clear hr0 hc0
  have hneg : decide ((n : Int) < 0) = false := decide_eq_false (by omega)
  have hgt : decide ((n : Int) > 9223372036854775807) = false := decide_eq_false (by omega)
  have hgt2 : decide (9223372036854775807 < (n : Int)) = false := decide_eq_false (by omega)
  have HN := Aside0.mk hn
  have hinf : (Try.prog.info? 3).map (·.size) = some 1 := by kernel_rfl
  have HB := zM (Below.refl w.heap.size w)
  have hmul := Try.bits_Mul 1 n (by decide) (by omega) w
  rw [Nat.one_mul, Nat.div_eq_of_lt (by omega), Nat.mod_eq_of_lt (by omega), show ((1 : Nat) : Int) = 1 from rfl, show ((0 : Nat) : Int) = 0 from rfl] at hmul
  have HM := Aside0.mk hmul
  clear hmul
  go_enter Try.func120, Try.ntmps120
  go_wp2_with (first
    | (go_at_call 144; refine HM.out.mono ?_; rintro e w' ⟨rfl, hw⟩; replace hw := hw.symm; subst hw)
    | ((with_reducible refine gate_dst (N := 30) rfl ?_); refine Kd.R_make (Kd.int .i64) _ 3 rfl (N := 30) rfl 25 _ _ rfl (n : Int) rfl rfl Try.underlying25 (.int .i64 0) 8 info3 rfl (by decide) (by omega) 0 (ok := fun _ => True) (okp := fun _ => True) rfl (fun _ hk => hk) trivial (by omega) (by rw [Int.toNat_natCast]; have := HN.out; omega) (Below.refl _ _) (Nat.le_refl _) ?_; intro v w8 ho hb hg_ hnew_; clear hg_ hnew_; rw [Int.toNat_natCast] at ho; have HO := zM (Kd.R_lower ho (below_size HB.out)); have HR1 := zM (Kd.C_below HR.out hb); replace HB := zM (below_step HB.out hb); clear ho hb)
    | ((with_reducible refine gate_builtin (b := .copy) (xs := #[.tmp 31, .tmp 32]) rfl ?_); refine Kd.R_copy (enc := Value.int .i64) (0 : Int) (w0 := w) w.heap.size rfl (.tmp 31) (.tmp 32) 25 25 3 rfl Try.underlying25 hinf v (List.replicate n 0) [x] A0 1 c0 (fun _ => True) rfl rfl HO.out HR1.out HB.out (below_size HB.out) ?_; intro w9 ho hb hg_; replace HO := zM ho; replace HB := zM hb; clear ho hb hg_ HR1))
  have hlen : (List.replicate n (0 : Int)).length = n := List.length_replicate ..
  rw [hlen] at HO
  (try simp only [hlen])
  have hrow : List.take (min 1 n) [x] ++ List.drop (min 1 n) (List.replicate n (0 : Int)) = List.replicate (min 1 n) x ++ List.replicate (n - min 1 n) 0 := by
    rw [List.drop_replicate]
    congr 1
    rcases Nat.eq_zero_or_pos n with h | h
    · subst h; rfl
    · rw [show min 1 n = 1 by omega]; rfl
  rw [hrow] at HO
  have HO2 := Aside0.mk (show Kd.R (Kd.int .i64) 3 w9 w.heap.size (fun _ => True) v (List.replicate (min 1 n) x ++ List.replicate (n - min 1 n) 0) from HO.out)
  clear HO hrow hlen
  obtain ⟨Av, cv, ev⟩ := Kd.R_slice HO2.out
  rw [show (List.replicate (min 1 n) x ++ List.replicate (n - min 1 n) (0 : Int)).length = n by rw [List.length_append, List.length_replicate, List.length_replicate]; exact Nat.add_sub_of_le (Nat.min_le_right 1 n)] at ev
  subst ev
  go_loopg [8] (n + 1) (fun kq v8 w' => ∃ m : Nat, v8 = .int .i64 (m : Int) ∧ Aside0 (m ≤ n) ∧ Aside0 (m = 0 → n = 0) ∧ Aside0 (n - m < kq) ∧ Aside0 (Kd.R (Kd.int .i64) 3 w' w.heap.size (fun _ => True) (.slice Av n cv) (List.replicate m x ++ List.replicate (n - m) 0)) ∧ Aside0 (Below w.heap.size w w'))
  case atStart => exact ⟨min 1 n, rfl, ⟨by omega⟩, ⟨by omega⟩, ⟨by omega⟩, HO2, HB⟩
  case round =>
    clear HO2 HB
    obtain ⟨m, rfl, HM1, HM0, HK1, HO, HB⟩ := hrel
    by_cases c1 : m < n
    · have hm1 := HM1.out
      obtain ⟨g, cap, eg, gb, gl, HG⟩ := Kd.R_form HO.out (by rw [List.length_append, List.length_replicate, List.length_replicate]; omega)
      injection eg with eA eN ec
      clear eN
      subst eA; subst ec
      have c1b : decide ((m : Int) < (n : Int)) = true := decide_eq_true (by omega)
      have c1c : decide (m < n) = true := decide_eq_true c1
      have p1 : (0 : Int) ≤ (m : Int) := by omega
      have q1 : (m : Int) ≤ (n : Int) := by omega
      have hcap : n ≤ cv := (Kd.R_reads' HO.out).2.1
      have HCAP := Aside0.mk hcap
      have GB := Aside0.mk gb
      have hcm : (m ≤ cv) = True := eq_true (by omega)
      have hce : (cv = m) = False := eq_false (by omega)
      replace p1 := eq_true p1
      replace q1 := eq_true q1
      clear hm1 c1 hcap hn gb gl HG hgt hgt2 hneg hinf
      go_upto_region 9 with (fail)
      (try simp only [Act.put, List.setIfInBounds_toArray, List.set_cons_zero, List.set_cons_succ])
      refine zs (n := 10) (fun _ => True) trivial (fun hHeld => ?_)
      have HO1 := zM (Kd.R_drew HO.out)
      have HB1 := zM (below_drew1 HB.out)
      clear HO HB
      generalize wr.drew = w10 at HO1 HB1 hHeld ⊢
      obtain ⟨C1, C2, C3⟩ := rep_cells HO1.out HM1.out 3 cv (cv - m)
      have CR := Aside0.mk C1
      have CO := Aside0.mk C2
      have CG := Aside0.mk C3
      clear C1 C2 C3
      refine zq 0 38 ?_
      refine zq 1 39 ?_
      refine zq 2 40 ?_
      refine zq 3 41 ?_
      refine zq 4 42 ?_
      refine zq 5 43 ?_
      refine zq 6 44 ?_
      refine one_ (i := 7) (N := some 45) #[true, true, true, true, true, true, true, true, false, false] rfl rfl (by kernel_rfl) (by decide) (fun K hK => ?_)
      refine value_ (w1 := w10.setCells g m (List.replicate (min m (n - m)) (Value.int .i64 x))) (v := .int .i64 ((min m (n - m) : Nat) : Int)) (by rfl) rfl ?_ ?_
      · go_simp
        rw [CR.out]
        rfl
      refine hK.out _ _ trivial (fun hHeld => ?_)
      clear hK K
      refine zn 45 ?_
      have hw1 : wrap64 ((m : Int) + ((min m (n - m) : Nat) : Int)) = ((m + min m (n - m) : Nat) : Int) := by
        have := HN.out
        have := HM1.out
        have := Nat.min_le_left m (n - m)
        unfold wrap64
        omega
      have HW := Aside0.mk hw1
      clear hw1
      refine zq 8 46 ?_
      refine zq 9 8 ?_
      refine zx ?_
      have hlt := of_decide_eq_true c1c
      have hmp : 0 < m := by
        rcases Nat.eq_zero_or_pos m with h | h
        · have := HM0.out h; omega
        · exact h
      have hq0 : 0 < min m (n - m) := by rw [Nat.lt_min]; omega
      have hq1 : m + min m (n - m) ≤ n := by have := Nat.min_le_right m (n - m); omega
      have HB2 := Aside0.mk (HB1.out.grown CG.out HB1.out.size (fun k hk => by injection hk with hk; have := GB.out; omega))
      (try go_wp2)
      go_roundg (n - m)
      case measure => exact HK1.out
      case rel => exact ⟨m + min m (n - m), by first | rfl | exact congrArg (Value.int .i64) HW.out | (rw [HW.out]; done), ⟨hq1⟩, ⟨fun h => by omega⟩, ⟨by omega⟩, CO, HB2⟩
    · have hm1 := HM1.out
      have e1 : m = n := by omega
      have c1b : decide ((m : Int) < (n : Int)) = false := decide_eq_false (by omega)
      have c1c : decide (m < n) = false := decide_eq_false c1
      have HE := Aside0.mk e1
      clear e1 c1 hm1 hn hgt hgt2 hneg hinf
      go_wp2
      go_ret
      refine ⟨_, rfl, ?_, HB.out⟩
      have e2 : List.replicate m x ++ List.replicate (n - m) 0 = List.replicate n x := by rw [HE.out, Nat.sub_self]; simp
      rw [← e2]
      exact HO.out
def slices_Repeat_int_int.f (l : List Int) (n : Int) : Option (List Int) := if l.length = 1 ∧ 0 ≤ n ∧ n ≤ 1048576 then some (List.replicate n.toNat (l.headD 0)) else none
theorem slices_Repeat_int_int.calls (A0 : Option Addr) (c0 : Nat) (l0 : List Int) (a1 : Int) (r : List Int) (w : World) (hr0 : Kd.C (Kd.int .i64) w A0 l0.length l0) (hc0 : l0.length ≤ c0) (h : slices_Repeat_int_int.f l0 a1 = some r) :
    Calls Try.prog 120 #[.slice A0 l0.length c0, .int .i64 a1] w fun e w' => ∃ v0_ : Value, e = .returned (v0_) ∧ Kd.R (Kd.int .i64) 3 w' w.heap.size (fun _ => True) v0_ r ∧ Below w.heap.size w w' := by
  unfold slices_Repeat_int_int.f at h
  by_cases c : l0.length = 1 ∧ 0 ≤ a1 ∧ a1 ≤ 1048576
  · rw [if_pos c] at h
    obtain rfl := Option.some.inj h
    obtain ⟨c1, c2, c3⟩ := c
    obtain ⟨n, rfl⟩ := Int.eq_ofNat_of_zero_le c2
    cases l0 with
    | nil => simp at c1
    | cons x t =>
      have ht : t = [] := by cases t with
        | nil => rfl
        | cons y s => simp at c1
      subst ht
      rw [Int.toNat_natCast]
      exact rep_calls A0 c0 x n (by omega) w hr0 hc0
  · rw [if_neg c] at h
    cases h
end Go.Proofs.Ytnlmijnbfdhdkaa.P
