/- The contract of slices.Repeat of a list of one number: the library's own text is walked. -/
import Derived.Test.YtadjbmcfgjmhkaaGreatSlideWalkG17
import Derived.Sort.OwnSortedInts
namespace Go.Proofs.YtadjbmcfgjmhkaaGreat.P
open Go.RowKit YtadjbmcfgjmhkaaGreatW.PrintWords Go.Proofs.YtadjbmcfgjmhkaaGreatW.PrintLast Go.Proofs.YtadjbmcfgjmhkaaGreatW.PrintMore
set_option maxRecDepth 100000
set_option maxHeartbeats 8000000
set_option linter.unusedVariables false
set_option linter.unusedSimpArgs false
theorem o1 {W : World} {base g n cap m : Nat} {x : Int} (HO : Kd.R (Kd.int .i64) 3 W base (fun _ => True) (.slice (some ⟨g, 0, none⟩) n cap) (List.replicate m x ++ List.replicate (n - m) 0)) (hm : m ≤ n) (ty : TypeId) (sCap dCap : Nat) :
   (Builtin.copy_ #[25, 25] ty #[.slice (some ⟨g, m, none⟩) (n - m) dCap, .slice (some ⟨g, 0, none⟩) m sCap]).run Tryz.prog W = .ok (.int .i64 ((min m (n - m) : Nat) : Int)) (W.setCells g m (List.replicate (min m (n - m)) (Value.int .i64 x))) ∧
   Kd.R (Kd.int .i64) 3 (W.setCells g m (List.replicate (min m (n - m)) (Value.int .i64 x))) base (fun _ => True) (.slice (some ⟨g, 0, none⟩) n cap) (List.replicate (m + min m (n - m)) x ++ List.replicate (n - (m + min m (n - m))) 0) ∧
   W.grownBy (W.setCells g m (List.replicate (min m (n - m)) (Value.int .i64 x))) (some g) := by
 have hown := Kd.own_of_R (enc := Value.int .i64) HO
 have hln : (List.replicate m x ++ List.replicate (n - m) (0 : Int)).length = n := by rw [List.length_append, List.length_replicate, List.length_replicate]; omega
 rcases hown.2 with ⟨h0, _⟩ | ⟨g', cap', cur, hv, hbase, hh, h1, h2, h3, h4⟩
 · cases h0
 injection hv with e1 e2 e3
 injection e1 with e1
 injection e1 with e1 _
 subst e1; subst e3
 rw [hln] at h1 h4
 rw [Nat.mul_one] at h3 h4
 have hget : ∀ j, j < m → W.cell? ⟨g, j, none⟩ = some (Value.int .i64 x) := fun j hj => by
   have e5 : (cur.toList.take n)[j]? = some (Value.int .i64 x) := by
     rw [h4]
     simp [aK, List.getElem?_append_left, hj]
   rw [List.getElem?_take_of_lt (by omega), Array.getElem?_toList] at e5
   simp [World.cell?, hh, e5]
 have hr := run_copy_cells (P := Tryz.prog) W 25 25 ty 3 g m (n - m) dCap ⟨g, 0, none⟩ m sCap (List.replicate (min m (n - m)) (Value.int .i64 x)) Tryz.underlying25 (by kernel_rfl) (List.length_replicate ..)
   (fun j v hj => by
     rw [List.getElem?_replicate] at hj
     by_cases c : j < min m (n - m)
     · rw [if_pos c] at hj
       rw [← hj, bI]
       exact hget j (by omega)
     · rw [if_neg c] at hj; cases hj)
   (fun j hj => by
     rw [List.length_replicate] at hj
     have : m + j < cur.size := by omega
     simp [World.cell?, hh, this])
   (fun j _ => ae hh _) (fun v hv => by rw [(List.mem_replicate.1 hv).2]; rfl)
 obtain ⟨cur', k1, k2, k3⟩ := fm (List.replicate (min m (n - m)) (Value.int .i64 x)) m W cur hh (by rw [List.length_replicate]; omega)
 obtain ⟨s1, s2, s3, s4⟩ := fl g (List.replicate (min m (n - m)) (Value.int .i64 x)) m W
 refine ⟨by rw [hr, List.length_replicate]; rfl, Kd.R_of_own (enc := Value.int .i64) ?_ (fun _ _ => trivial), ⟨s1, s2, s3, by rw [s4]; exact au _, fun k _ hk => fo _ _ k (fun he => hk (by rw [he]))⟩⟩
 have hln2 : (List.replicate (m + min m (n - m)) x ++ List.replicate (n - (m + min m (n - m))) (0 : Int)).length = n := by rw [List.length_append, List.length_replicate, List.length_replicate]; omega
 rw [hln2]
 refine ⟨by rw [eR, hln2, Nat.mul_one], .inr ⟨g, cap, cur', rfl, hbase, k1, h1, h2, by rw [k2, h3, Nat.mul_one], ?_⟩⟩
 rw [k3, Nat.mul_one, List.length_replicate]
 have ht : cur.toList.take n = List.replicate m (Value.int .i64 x) ++ List.replicate (n - m) (Value.int .i64 0) := by rw [h4]; simp [aK]
 have hcl : cur.toList.length = cap := by rw [Array.length_toList]; exact h3
 apply List.ext_getElem?
 intro j
 have hj0 : ∀ j, j < n → cur.toList[j]? = (List.replicate m (Value.int .i64 x) ++ List.replicate (n - m) (Value.int .i64 0))[j]? := fun j hj => by rw [← ht, List.getElem?_take_of_lt hj]
 by_cases cj : j < n
 · rw [List.getElem?_take_of_lt cj, List.append_assoc]
   by_cases c1 : j < m
   · rw [List.getElem?_append_left (by rw [List.length_take]; omega), List.getElem?_take_of_lt c1, hj0 j cj]
     simp [aK, List.getElem?_append, List.getElem?_replicate, c1, show j < m + min m (n - m) by omega]
   · rw [List.getElem?_append_right (by rw [List.length_take]; omega), List.length_take, show min m cur.toList.length = m by omega]
     by_cases c2 : j < m + min m (n - m)
     · rw [List.getElem?_append_left (by rw [List.length_replicate]; omega)]
       simp [aK, List.getElem?_append, List.getElem?_replicate, c2, show j - m < min m (n - m) by omega]
     · rw [List.getElem?_append_right (by rw [List.length_replicate]; omega), List.length_replicate, List.getElem?_drop, show m + min m (n - m) + (j - m - min m (n - m)) = j by omega, hj0 j cj]
       simp [aK, List.getElem?_append, List.getElem?_replicate, c1, c2, show j - m < n - m by omega]
       omega
 · rw [List.getElem?_take_eq_none (by omega), List.getElem?_eq_none (by rw [eR, hln2]; omega)]
set_option maxHeartbeats 2000000 in
theorem o2 (A0 : Option Addr) (c0 : Nat) (x : Int) (n : Nat) (hn : n ≤ 1048576) (w : World) (hr0 : Kd.C (Kd.int .i64) w A0 1 [x]) (hc0 : 1 ≤ c0) :
  Calls Tryz.prog 96 #[.slice A0 1 c0, .int .i64 (n : Int)] w fun e w' => ∃ v0_ : Value, e = .returned (v0_) ∧ Kd.R (Kd.int .i64) 3 w' w.heap.size (fun _ => True) v0_ (List.replicate n x) ∧ Below w.heap.size w w' := by
 have HR := Aside0.mk hr0
 have HC := Aside0.mk hc0
 clear hr0 hc0
 have hneg : decide ((n : Int) < 0) = false := ar (by omega)
 have hgt : decide ((n : Int) > 9223372036854775807) = false := ar (by omega)
 have hgt2 : decide (9223372036854775807 < (n : Int)) = false := ar (by omega)
 have HN := Aside0.mk hn
 have hinf : (Tryz.prog.info? 3).map (·.size) = some 1 := by kernel_rfl
 have HB := zM (Below.refl w.heap.size w)
 have hmul := Tryz.bits_Mul 1 n (by decide) (by omega) w
 rw [Nat.one_mul, Nat.div_eq_of_lt (by omega), Nat.mod_eq_of_lt (by omega), show ((1 : Nat) : Int) = 1 from rfl, show ((0 : Nat) : Int) = 0 from rfl] at hmul
 have HM := Aside0.mk hmul
 clear hmul
 go_enter Tryz.func96, Tryz.ntmps96
 go_wp2_with (first
  | (go_at_call 121; refine HM.out.mono ?_; rintro e w' ⟨rfl, hw⟩; replace hw := hw.symm; subst hw)
  | ((with_reducible refine ap (N := 30) rfl ?_); refine Kd.R_make (Kd.int .i64) _ 3 rfl (N := 30) rfl 25 _ _ rfl (n : Int) rfl rfl Tryz.underlying25 (.int .i64 0) 8 bq rfl (by decide) (by omega) 0 (ok := fun _ => True) (okp := fun _ => True) rfl (fun _ hk => hk) trivial (by omega) (by rw [Int.toNat_natCast]; have := HN.out; omega) (Below.refl _ _) (au _) ?_; intro v w8 ho hb hg_ hnew_; clear hg_ hnew_; rw [Int.toNat_natCast] at ho; have HO := zM (Kd.R_lower ho (ai HB.out)); have HR1 := zM (Kd.C_below HR.out hb); replace HB := zM (ah HB.out hb); clear ho hb)
  | ((with_reducible refine br (b := .copy) (xs := #[.tmp 31, .tmp 32]) rfl ?_); refine Kd.R_copy (enc := Value.int .i64) (0 : Int) (w0 := w) w.heap.size rfl (.tmp 31) (.tmp 32) 25 25 3 rfl Tryz.underlying25 hinf v (List.replicate n 0) [x] A0 1 c0 (fun _ => True) rfl rfl HO.out HR1.out HB.out (ai HB.out) ?_; intro w9 ho hb hg_; replace HO := zM ho; replace HB := zM hb; clear ho hb hg_ HR1))
 have hlen : (List.replicate n (0 : Int)).length = n := List.length_replicate ..
 rw [hlen] at HO
 (try simp only [hlen])
 have hrow : List.take (min 1 n) [x] ++ List.drop (min 1 n) (List.replicate n (0 : Int)) = List.replicate (min 1 n) x ++ List.replicate (n - min 1 n) 0 := by
  rw [List.drop_replicate]
  congr 1
  rcases Nat.eq_zero_or_pos n with h | h
  · subst h; rfl
  · rw [show min 1 n = 1 by omega]; rfl
 rw [hrow] at HO
 have HO2 := Aside0.mk (show Kd.R (Kd.int .i64) 3 w9 w.heap.size (fun _ => True) v (List.replicate (min 1 n) x ++ List.replicate (n - min 1 n) 0) from HO.out)
 clear HO hrow hlen
 obtain ⟨Av, cv, ev⟩ := Kd.R_slice HO2.out
 rw [show (List.replicate (min 1 n) x ++ List.replicate (n - min 1 n) (0 : Int)).length = n by rw [List.length_append, List.length_replicate, List.length_replicate]; exact Nat.add_sub_of_le (Nat.min_le_right 1 n)] at ev
 subst ev
 go_loopg [8] (n + 1) (fun kq v8 w' => ∃ m : Nat, v8 = .int .i64 (m : Int) ∧ Aside0 (m ≤ n) ∧ Aside0 (m = 0 → n = 0) ∧ Aside0 (n - m < kq) ∧ Aside0 (Kd.R (Kd.int .i64) 3 w' w.heap.size (fun _ => True) (.slice Av n cv) (List.replicate m x ++ List.replicate (n - m) 0)) ∧ Aside0 (Below w.heap.size w w'))
 case atStart => exact ⟨min 1 n, rfl, ⟨by omega⟩, ⟨by omega⟩, ⟨by omega⟩, HO2, HB⟩
 case round =>
  clear HO2 HB
  obtain ⟨m, rfl, HM1, HM0, HK1, HO, HB⟩ := hrel
  by_cases c1 : m < n
  · have hm1 := HM1.out
    obtain ⟨g, cap, eg, gb, gl, HG⟩ := Kd.R_form HO.out (by rw [List.length_append, List.length_replicate, List.length_replicate]; omega)
    injection eg with eA eN ec
    clear eN
    subst eA; subst ec
    have c1b : decide ((m : Int) < (n : Int)) = true := ag (by omega)
    have c1c : decide (m < n) = true := ag c1
    have p1 : (0 : Int) ≤ (m : Int) := by omega
    have q1 : (m : Int) ≤ (n : Int) := by omega
    have hcap : n ≤ cv := (Kd.R_reads' HO.out).2.1
    have HCAP := Aside0.mk hcap
    have GB := Aside0.mk gb
    have hcm : (m ≤ cv) = True := eq_true (by omega)
    have hce : (cv = m) = False := eq_false (by omega)
    replace p1 := eq_true p1
    replace q1 := eq_true q1
    clear hm1 c1 hcap hn gb gl HG hgt hgt2 hneg hinf
    go_upto_region 9 with (fail)
    (try simp only [Act.put, List.setIfInBounds_toArray, List.set_cons_zero, List.set_cons_succ])
    refine zs (n := 10) (fun _ => True) trivial (fun hHeld => ?_)
    have HO1 := zM (Kd.R_drew HO.out)
    have HB1 := zM (aC HB.out)
    clear HO HB
    generalize wr.drew = w10 at HO1 HB1 hHeld ⊢
    obtain ⟨C1, C2, C3⟩ := o1 HO1.out HM1.out 3 cv (cv - m)
    have CR := Aside0.mk C1
    have CO := Aside0.mk C2
    have CG := Aside0.mk C3
    clear C1 C2 C3
    refine zq 0 38 ?_
    refine zq 1 39 ?_
    refine zq 2 40 ?_
    refine zq 3 41 ?_
    refine zq 4 42 ?_
    refine zq 5 43 ?_
    refine zq 6 44 ?_
    refine bw (i := 7) (N := some 45) #[true, true, true, true, true, true, true, true, false, false] rfl rfl (by kernel_rfl) (by decide) (fun K hK => ?_)
    refine eW (w1 := w10.setCells g m (List.replicate (min m (n - m)) (Value.int .i64 x))) (v := .int .i64 ((min m (n - m) : Nat) : Int)) (by rfl) rfl ?_ ?_
    · go_simp
      rw [CR.out]
      rfl
    refine hK.out _ _ trivial (fun hHeld => ?_)
    clear hK K
    refine zn 45 ?_
    have hw1 : wrap64 ((m : Int) + ((min m (n - m) : Nat) : Int)) = ((m + min m (n - m) : Nat) : Int) := by
      have := HN.out
      have := HM1.out
      have := Nat.min_le_left m (n - m)
      unfold wrap64
      omega
    have HW := Aside0.mk hw1
    clear hw1
    refine zq 8 46 ?_
    refine zq 9 8 ?_
    refine zx ?_
    have hlt := ac c1c
    have hmp : 0 < m := by
      rcases Nat.eq_zero_or_pos m with h | h
      · have := HM0.out h; omega
      · exact h
    have hq0 : 0 < min m (n - m) := by rw [Nat.lt_min]; omega
    have hq1 : m + min m (n - m) ≤ n := by have := Nat.min_le_right m (n - m); omega
    have HB2 := Aside0.mk (HB1.out.grown CG.out HB1.out.size (fun k hk => by injection hk with hk; have := GB.out; omega))
    (try go_wp2)
    go_roundg (n - m)
    case measure => exact HK1.out
    case rel => exact ⟨m + min m (n - m), by first | rfl | exact congrArg (Value.int .i64) HW.out | (rw [HW.out]; done), ⟨hq1⟩, ⟨fun h => by omega⟩, ⟨by omega⟩, CO, HB2⟩
  · have hm1 := HM1.out
    have e1 : m = n := by omega
    have c1b : decide ((m : Int) < (n : Int)) = false := ar (by omega)
    have c1c : decide (m < n) = false := ar c1
    have HE := Aside0.mk e1
    clear e1 c1 hm1 hn hgt hgt2 hneg hinf
    go_wp2
    go_ret
    refine ⟨_, rfl, ?_, HB.out⟩
    have e2 : List.replicate m x ++ List.replicate (n - m) 0 = List.replicate n x := by rw [HE.out, Nat.sub_self]; simp
    rw [← e2]
    exact HO.out
def ga (l : List Int) (n : Int) : Option (List Int) := if l.length = 1 ∧ 0 ≤ n ∧ n ≤ 1048576 then some (List.replicate n.toNat (l.headD 0)) else none
theorem ot (A0 : Option Addr) (c0 : Nat) (l0 : List Int) (a1 : Int) (r : List Int) (w : World) (hr0 : Kd.C (Kd.int .i64) w A0 l0.length l0) (hc0 : l0.length ≤ c0) (h : ga l0 a1 = some r) :
   Calls Tryz.prog 96 #[.slice A0 l0.length c0, .int .i64 a1] w fun e w' => ∃ v0_ : Value, e = .returned (v0_) ∧ Kd.R (Kd.int .i64) 3 w' w.heap.size (fun _ => True) v0_ r ∧ Below w.heap.size w w' := by
 unfold ga at h
 by_cases c : l0.length = 1 ∧ 0 ≤ a1 ∧ a1 ≤ 1048576
 · rw [if_pos c] at h
   obtain rfl := ao h
   obtain ⟨c1, c2, c3⟩ := c
   obtain ⟨n, rfl⟩ := Int.eq_ofNat_of_zero_le c2
   cases l0 with
   | nil => simp at c1
   | cons x t =>
    have ht : t = [] := by cases t with
     | nil => rfl
     | cons y s => simp at c1
    subst ht
    rw [Int.toNat_natCast]
    exact o2 A0 c0 x n (by omega) w hr0 hc0
 · rw [if_neg c] at h
   cases h
attribute [local go_sem] aX aT aU aM aV aN aW aQ
set_option linter.unusedVariables false
set_option linter.unusedSimpArgs false
mutual
def cD : Nat → List (List Int) → List Int → List Int → Option (List Int)
 | 0, _, _, _ => none
 | k + 1, x0, x5, x6 => if (x6.length : Int) > 0 then (if 0 < (x6.length : Int) then (if 1 ≤ (x6.length : Int) then (if 0 ≤ (rd x6 0) then (if (rd x6 0) < (x0.length : Int) then (cC k x0 x5 (x6.drop (1 : Int).toNat) (rd x6 0) (af x0 (rd x6 0)) ((af x0 (rd x6 0)).length : Int) 0) else (none)) else (none)) else (none)) else (none)) else (some x5)
def cC : Nat → List (List Int) → List Int → List Int → Int → List Int → Int → Int → Option (List Int)
 | 0, _, _, _, _, _, _, _ => none
 | k + 1, x0, x5, x6, x7, x30, x31, x32 => if x32 < x31 then (if 0 ≤ x32 then (if x32 < (x30.length : Int) then (if 0 ≤ (rd x30 x32) then (if (rd x30 x32) < (x5.length : Int) then (if (rd x5 (rd x30 x32)) < 0 then (if 0 ≤ x7 then (if x7 < (x5.length : Int) then (if x6.length < 17592186044416 then (cC k x0 (x5.set ((rd x30 x32) : Int).toNat (wrap64 ((rd x5 x7) + 1))) (x6 ++ [rd x30 x32]) x7 x30 x31 (wrap64 (x32 + 1))) else (none)) else (none)) else (none)) else (cC k x0 x5 x6 x7 x30 x31 (wrap64 (x32 + 1)))) else (none)) else (none)) else (none)) else (none)) else (cD k x0 x5 x6)
end
def gC (k : Nat) (l0 : List (List Int)) (a1 : Int) : Option (List Int) := (ga (([(-1)] : List Int)) (l0.length : Int)).bind fun t482 => (if 0 ≤ a1 then (if a1 < (t482.length : Int) then (cD k l0 (t482.set (a1 : Int).toNat 0) (([a1] : List Int))) else (none)) else (none))
theorem fy (k : Nat) (A0 : Option Addr) (c0 : Nat) (l0 : List (List Int)) (a1 : Int) (r : List Int) (w : World) (hr0 : Kd.C (Kd.slice 3 (Kd.int .i64)) w A0 l0.length l0) (hc0 : l0.length ≤ c0) (h : gC k l0 a1 = some r) :
 Calls Tryz.prog 75 #[.slice A0 l0.length c0, .int .i64 a1] w fun e w' => ∃ v0_ : Value, e = .returned (v0_) ∧ Kd.R (Kd.int .i64) 3 w' w.heap.size (fun _ => True) v0_ r ∧ Below w.heap.size w w' := by
 have HR0 := Aside0.mk hr0
 have HC0 := Aside0.mk hc0
 clear hr0 hc0
 have HB := zM (Below.refl w.heap.size w)
 have H := h
 unfold gC at H
 clear h
 obtain ⟨y479, hy479⟩ : ∃ y_ : List Int, y_ = (([(-1)] : List Int)) := ⟨_, rfl⟩
 replace H : ((ga y479 (l0.length : Int)).bind fun t482 => (if 0 ≤ a1 then (if a1 < (t482.length : Int) then (cD k l0 (t482.set (a1 : Int).toNat 0) (([a1] : List Int))) else (none)) else (none))) = some r := by first | (rw [hy479]; with_reducible exact H) | (have H2_ := (Option.bind_some _ _).symm.trans H; rw [hy479]; with_reducible exact H2_) | (have H2_ := (Option.bind_some _ _).symm.trans H; with_reducible exact H2_) | with_reducible exact H | (rw [hy479]; exact H) | exact H
 have Ny479 := Aside0.mk hy479
 clear hy479
 replace H := ax H
 obtain ⟨t482, A30, H⟩ := H
 have A3 := Aside0.mk A30
 clear A30
 by_cases c4 : 0 ≤ a1
 case neg => rw [if_neg c4] at H; simp at H
 rw [if_pos c4] at H
 have c4b0 := ag c4
 clear c4
 by_cases c5 : a1 < (t482.length : Int)
 case neg => rw [if_neg c5] at H; simp at H
 rw [if_pos c5] at H
 have c5b0 := ag c5
 clear c5
 obtain ⟨y485, hy485⟩ : ∃ y_ : List Int, y_ = (t482.set (a1 : Int).toNat 0) := ⟨_, rfl⟩
 replace H : (cD k l0 y485 (([a1] : List Int))) = some r := by first | (rw [hy485]; with_reducible exact H) | (have H2_ := (Option.bind_some _ _).symm.trans H; rw [hy485]; with_reducible exact H2_) | (have H2_ := (Option.bind_some _ _).symm.trans H; with_reducible exact H2_) | with_reducible exact H | (rw [hy485]; exact H) | exact H
 have Ny485 := Aside0.mk hy485
 clear hy485
 obtain ⟨y486, hy486⟩ : ∃ y_ : List Int, y_ = (([a1] : List Int)) := ⟨_, rfl⟩
 replace H : (cD k l0 y485 y486) = some r := by first | (rw [hy486]; with_reducible exact H) | (have H2_ := (Option.bind_some _ _).symm.trans H; rw [hy486]; with_reducible exact H2_) | (have H2_ := (Option.bind_some _ _).symm.trans H; with_reducible exact H2_) | with_reducible exact H | (rw [hy486]; exact H) | exact H
 have Ny486 := Aside0.mk hy486
 clear hy486
 have H' := Aside0.mk H
 clear H
 go_enter Tryz.func75, Tryz.ntmps75
 go_wp2_with (first | ((with_reducible refine ap (N := 10) rfl ?_); refine Kd.R_lit (Kd.int .i64) _ 3 ?hg (N := 10) ?hd (xs := ([(-1)] : List Int)) (inner := [.int .i64 (-1)]) (ok := fun _ => True) (okp := fun _ => True) ?hr ?hp (fun _ hk => hk) trivial (Below.refl _ _) (au _) (by simp) ?_; (case hd => rfl); (case hg => rfl); (case hr => first | (go_simp; done) | (go_simp; rfl)); (case hp => exact (Reps.one (show Kd.M (Kd.int .i64) _ _ _ (-1) [.int .i64 (-1)] from rfl) (Reps.none _ _))); intro v480 w7 ho8 hb hg_ hnew_; clear hg_ hnew_; (first | rw [← Ny479.out] at ho8 | (simp only [Int.reduceToNat] at ho8; rw [← Ny479.out] at ho8)); have HO481 := zM (Kd.R_lower ho8 (ai zB)); replace HB := zM (ah zB hb); clear hb ho8; obtain ⟨Ao9, co9, eo9⟩ := Kd.R_slice HO481.out; subst eo9) | ((with_reducible refine ay (f := 96) rfl ?_); refine zc 13 Tryz.func96 #[.slice Ao9 y479.length co9, .int .i64 (l0.length : Int)] ?_; (with_reducible refine (ot _ _ y479 (l0.length : Int) t482 _ ?side1 ?side2 A3.out).mono ?_); (case side1 => exact zC (Kd.R_reads' HO481.out).2.2); (case side2 => exact (Kd.R_reads' HO481.out).2.1); rintro e w10 ⟨v483, rfl, ho0, hb⟩; refine ⟨_, rfl, ?_⟩; have HO484 := zM (Kd.R_lower (Kd.R_new' ho0 (Kd.R_lt (zR HO481.out))) (ai zB)); replace HO481 := zM (Kd.R_elder' (zR HO481.out) (Kd.R_base ho0) hb); replace HB := zM (ah zB hb); (try clear hb); (try clear ho0); have p6 : 0 ≤ (a1 : Int) := ac zA; have q6 : (a1 : Int) < ((t482.length : Int) : Int) := ac zA; obtain ⟨go6, co6, eo6, gb6, gl6, cl6, HG6⟩ := Kd.R_form HO484.out (by omega); (first | cases eo6 | (injection eo6 with ea_ en_ ec_; (first | subst ea_ | (injection ea_ with ea_; subst ea_)); subst ec_; clear en_)); have GB6 := Aside0.mk gb6; have GG6 := Aside0.mk HG6; clear gb6 gl6 HG6; obtain ⟨hx6_0, hf6_0⟩ := Kd.R_celln 0 HO484.out (a1 : Int) p6 q6; replace p6 := eq_true p6; replace q6 := eq_true q6; have n_ := zM (Kd.R_mono (ok' := (fun k_ => some k_ ≠ (.slice Ao9 y479.length co9 : Value).ownBlock)) HO484.out (fun k_ hk => hk.2)); clear HO484; have HO484 := n_; clear n_; obtain ⟨hy11_, hz11_⟩ := Kd.R_celln 0 HO484.out (a1 : Int) (ac zA) (ac zA); have HP11 := Kd.R_putg HO484.out (a1 : Int) 0) | ((with_reducible refine cG (t := 3) (p := 16) rfl ?_); refine cx (t := 3) (p := 16) (v := ?vo_w12) (w1 := (w10.setCell ⟨go6, (a1 : Int).toNat, none⟩ (.int .i64 0))) ?hg ?ho ?hn ?hr ?_; (case ho => rfl); (case hg => rfl); (case hn => rfl); (case hr => first | (go_simp; done) | (go_simp; rfl)); intro w12 hw; have hg : w10.grownBy w12 (some go6) := (by rw [hw]; exact HP11.2); have hp_ : Kd.R (Kd.int .i64) 3 w12 w.heap.size (fun k_ => some k_ ≠ (.slice Ao9 y479.length co9 : Value).ownBlock) (.slice (some ⟨go6, 0, none⟩) t482.length co6) y485 := (by rw [hw, Ny485.out]; exact HP11.1); clear HP11; replace HO481 := zM (Kd.R_after (v := (.slice (some ⟨go6, 0, none⟩) t482.length co6)) (v1 := (.slice (some ⟨go6, 0, none⟩) t482.length co6)) (ok := (fun _ => True)) (zR HO481.out) hg (.inl rfl)); replace HO484 := zM (hp_); replace HB := zM ((by rw [hw]; exact bz (HB.out) GB6.out : Below w.heap.size w w12)); clear hg hw hp_) | ((with_reducible refine ap (N := 18) rfl ?_); refine Kd.R_lit (Kd.int .i64) _ 3 ?hg (N := 18) ?hd (xs := ([a1] : List Int)) (inner := [.int .i64 a1]) (ok := fun _ => True) (okp := fun _ => True) ?hr ?hp (fun _ hk => hk) trivial (Below.refl _ _) (au _) (by simp) ?_; (case hd => rfl); (case hg => rfl); (case hr => first | (go_simp; done) | (go_simp; rfl)); (case hp => exact (Reps.one (show Kd.M (Kd.int .i64) _ _ _ a1 [.int .i64 a1] from rfl) (Reps.none _ _))); intro v487 w13 ho14 hb hg_ hnew_; clear hg_ hnew_; (first | rw [← Ny486.out] at ho14 | (simp only [Int.reduceToNat] at ho14; rw [← Ny486.out] at ho14)); have HO488 := zM (Kd.R_lower (Kd.R_new' (Kd.R_new' ho14 (Kd.R_lt (zR HO481.out))) (Kd.R_lt (zR HO484.out))) (ai zB)); replace HO481 := zM (Kd.R_elder' (zR HO481.out) (Kd.R_base ho14) hb); replace HO484 := zM (Kd.R_elder' (zR HO484.out) (Kd.R_base ho14) hb); replace HB := zM (ah zB hb); clear hb ho14))
 go_loopg [6] k (fun kq v6 w' => ∃ (x5_1 : List Int) (x6_1 : List Int), Aside0 (cD kq l0 x5_1 x6_1 = some r) ∧ Aside0 (kq ≤ k) ∧ Aside0 (Kd.R (Kd.int .i64) 3 w' w.heap.size (fun k_ => some k_ ≠ (v6 : Value).ownBlock) (.slice (some ⟨go6, 0, none⟩) t482.length co6) x5_1) ∧ Aside0 (Kd.Q (Kd.int .i64) 3 w' w.heap.size (fun k_ => some k_ ≠ ((.slice (some ⟨go6, 0, none⟩) t482.length co6) : Value).ownBlock) v6 x6_1) ∧ Aside0 (Below w.heap.size w w'))
 case atStart => exact ⟨(y485), (y486), H', ⟨au _⟩, ⟨by (with_reducible repeat (first | apply Kd.R_alloc | apply Kd.R_drewN | apply Kd.R_drew)); exact Kd.R_mono HO484.out (fun _ hk => hk.2)⟩, ⟨Kd.Q_of_R (by (with_reducible repeat (first | apply Kd.R_alloc | apply Kd.R_drewN | apply Kd.R_drew)); exact Kd.R_mono HO488.out (fun _ hk => hk.2))⟩, ⟨zB⟩⟩
 case round =>
  clear H'
  try clear p2
  try clear c4
  try clear c4b0
  try clear c5
  try clear c5b0
  try clear p6
  try clear q6
  try clear hx6
  try clear hf6
  try clear c7
  try clear c9
  try clear hx6_0
  try clear p6
  try clear q6
  obtain ⟨x5_1, x6_1, HA, HK1, HO_5, HO_6, HB⟩ := hrel
  have hl5_1 := (Kd.R_reads' HO_5.out).1
  rw [hl5_1] at HO_5
  (try simp only [hl5_1])
  (try simp only [hl5_1] at HO_6)
  cases gk with
  | zero => exact absurd HA.out (by simp [cD])
  | succ k1 =>
   have H := HA.out
   clear HA
   simp only [cD] at H
   by_cases c15 : (x6_1.length : Int) > 0
   · rw [if_pos c15] at H
     have c15b0 : decide (0 < (x6_1.length : Int)) = true := ag c15
     have c15b1 : decide (0 < x6_1.length) = true := ag (by omega)
     clear c15
     by_cases c16 : 0 < (x6_1.length : Int)
     case neg => rw [if_neg c16] at H; simp at H
     rw [if_pos c16] at H
     have c16b0 := ag c16
     have c16b1 : decide (0 < x6_1.length) = true := ag (by omega)
     clear c16
     by_cases c17 : 1 ≤ (x6_1.length : Int)
     case neg => rw [if_neg c17] at H; simp at H
     rw [if_pos c17] at H
     have c17b0 := eq_true c17
     have c17b1 : decide (1 ≤ (x6_1.length : Int)) = true := ag c17
     clear c17
     obtain ⟨y490, hy490⟩ : ∃ y_ : List Int, y_ = (x6_1.drop (1 : Int).toNat) := ⟨_, rfl⟩
     replace H : (if 0 ≤ (rd x6_1 0) then (if (rd x6_1 0) < (l0.length : Int) then (cC k1 l0 x5_1 y490 (rd x6_1 0) (af l0 (rd x6_1 0)) ((af l0 (rd x6_1 0)).length : Int) 0) else (none)) else (none)) = some r := by first | (rw [hy490]; with_reducible exact H) | (have H2_ := (Option.bind_some _ _).symm.trans H; rw [hy490]; with_reducible exact H2_) | (have H2_ := (Option.bind_some _ _).symm.trans H; with_reducible exact H2_) | with_reducible exact H | (rw [hy490]; exact H) | exact H
     have Ny490 := Aside0.mk hy490
     clear hy490
     by_cases c18 : 0 ≤ (rd x6_1 0)
     case neg => rw [if_neg c18] at H; simp at H
     rw [if_pos c18] at H
     have c18b0 := ag c18
     clear c18
     by_cases c19 : (rd x6_1 0) < (l0.length : Int)
     case neg => rw [if_neg c19] at H; simp at H
     rw [if_pos c19] at H
     have c19b0 := ag c19
     clear c19
     have H' := Aside0.mk H
     clear H
     obtain ⟨Ao20, co20, eo20, _⟩ := Kd.Q_slice HO_6.out
     subst eo20
     have p489 : 0 ≤ (0 : Int) := (by omega)
     have q489 : 0 < (x6_1.length : Int) := ac zA
     obtain ⟨ad489, e489, hx489_0⟩ := Kd.at_int (Kd.Q_reads' HO_6.out).2.2 0 p489 q489
     cases e489
     have qi489 : (0 < x6_1.length) = True := eq_true (by omega)
     (try rw [show ((0 : Int)).toNat = 0 from rfl] at hx489_0)
     (try rw [Addr.add_zero'] at hx489_0)
     replace p489 := eq_true p489
     replace q489 := eq_true q489
     have q21 : (1 : Int) ≤ ((x6_1.length : Int) : Int) := ac zA
     obtain ⟨i021, hi021, _, hsz21, _⟩ := info_parts bq
     have hcut21 := jR (P := Tryz.prog) 25 3 .i64 Tryz.underlying25 hi021 1 hsz21 (some ad489) x6_1.length co20 1 (by omega) q21
     have hr21 := Kd.Q_drop (k := (1 : Int).toNat) HO_6.out (by omega)
     obtain ⟨A21, hA21⟩ : ∃ A1, A1 = (if co20 = (1 : Int).toNat then (some ad489) else ((some ad489) : Option Addr).map (·.add ((1 : Int).toNat * 1))) := ⟨_, rfl⟩
     obtain ⟨c21, hc21⟩ : ∃ c1, c1 = co20 - (1 : Int).toNat := ⟨_, rfl⟩
     have hy21 : y490.length = x6_1.length - (1 : Int).toNat := (by rw [Ny490.out, List.length_drop])
     rw [← Ny490.out] at hr21
     rw [← hy21, ← hA21, ← hc21] at hcut21
     replace hr21 : Kd.Q (Kd.int .i64) 3 wr w.heap.size (fun k_ => some k_ ≠ (.slice (some ⟨go6, 0, none⟩) x5_1.length co6 : Value).ownBlock) (.slice A21 y490.length c21) y490 := (by rw [hA21, hc21, hy21]; exact hr21)
     have HE21 : Aside0 ((Value.slice A21 y490.length c21).ownBlock = (.slice (some ad489) x6_1.length co20 : Value).ownBlock) := ⟨by rw [hA21]; split <;> (cases ((some ad489) : Option Addr) <;> rfl)⟩
     clear hy21 hi021 hsz21 HO_6 hA21 hc21
     have HO492 := Aside0.mk hr21
     clear hr21
     replace q21 := eq_true q21
     have n_ := zM (Kd.R_mono (ok' := fun k_ => some k_ ≠ (.slice A21 y490.length c21 : Value).ownBlock) HO_5.out (fun k_ hk => (by rw [HE21.out]; exact hk)))
     clear HO_5
     have HO_5 := n_
     clear n_
     have p493 : 0 ≤ ((rd x6_1 0) : Int) := ac zA
     have q493 : (rd x6_1 0) < (l0.length : Int) := ac zA
     obtain ⟨ad493, A493_0, c493_0, e493, hx493_0, hl493_0, hi493_0⟩ := bf HR0.out (rd x6_1 0) p493 q493
     cases e493
     (try replace hx493_0 := (HB.out.cell (aj w _ hx493_0)).trans hx493_0)
     have HR493_0 := Aside0.mk hi493_0
     have HC493_0 := Aside0.mk hl493_0
     clear hi493_0 hl493_0
     replace p493 := eq_true p493
     replace q493 := eq_true q493
     go_wp2
     go_loopg [6, 32] k1 (fun kq v6 v32 w' => ∃ (x5_2 : List Int) (x6_2 : List Int) (x32_2 : Int), v32 = .int .i64 x32_2 ∧ Aside0 (cC kq l0 x5_2 x6_2 (rd x6_1 0) (af l0 (rd x6_1 0)) ((af l0 (rd x6_1 0)).length : Int) x32_2 = some r) ∧ Aside0 (kq ≤ k1) ∧ Aside0 (Kd.R (Kd.int .i64) 3 w' w.heap.size (fun k_ => some k_ ≠ (v6 : Value).ownBlock) (.slice (some ⟨go6, 0, none⟩) x5_1.length co6) x5_2) ∧ Aside0 (Kd.Q (Kd.int .i64) 3 w' w.heap.size (fun k_ => some k_ ≠ ((.slice (some ⟨go6, 0, none⟩) x5_1.length co6) : Value).ownBlock) v6 x6_2) ∧ Aside0 (Below w.heap.size w w'))
     case atStart => exact ⟨(x5_1), (y490), (0), (by first | rfl | (simp; done) | (simp [*]; done)), H', ⟨au _⟩, ⟨by (try simp only [hl5_1]); (with_reducible repeat (first | apply Kd.R_alloc | apply Kd.R_drewN | apply Kd.R_drew)); exact HO_5.out⟩, ⟨by (try simp only [hl5_1]); (with_reducible repeat (first | apply Kd.Q_alloc | apply Kd.Q_drewN | apply Kd.Q_drew)); exact HO492.out⟩, ⟨zB⟩⟩
     case round =>
      clear H'
      try clear c1
      try clear c2
      try clear p2
      try clear q2
      try clear c4
      try clear c4b0
      try clear p4
      try clear q4
      try clear hx4
      try clear qi4
      try clear c5
      try clear c5b0
      try clear p6
      try clear q6
      try clear hx6
      try clear hf6
      try clear c7
      try clear c9
      try clear c15
      try clear c15b0
      try clear c15b1
      try clear c16
      try clear c16b0
      try clear c16b1
      try clear c17
      try clear c17b0
      try clear c17b1
      try clear c18
      try clear c18b0
      try clear c19
      try clear c19b0
      try clear c21
      try clear q21
      try clear hx489_0
      try clear hx493_0
      try clear hx6_0
      try clear p2
      try clear p489
      try clear p493
      try clear p6
      try clear q21
      try clear q489
      try clear q493
      try clear q6
      obtain ⟨x5_2, x6_2, x32_2, rfl, HA, HK2, HO_5, HO_6, HB⟩ := hrel
      have hl5_2 := (Kd.R_reads' HO_5.out).1
      rw [hl5_2] at HO_5
      (try simp only [hl5_2])
      (try simp only [hl5_2] at HO_6)
      cases gk with
      | zero => exact absurd HA.out (by simp [cC])
      | succ k2 =>
       have H := HA.out
       clear HA
       simp only [cC] at H
       by_cases c22 : x32_2 < ((af l0 (rd x6_1 0)).length : Int)
       · rw [if_pos c22] at H
         have c22b0 := ag c22
         clear c22
         by_cases c23 : 0 ≤ x32_2
         case neg => rw [if_neg c23] at H; simp at H
         rw [if_pos c23] at H
         have c23b0 := ag c23
         clear c23
         by_cases c24 : x32_2 < ((af l0 (rd x6_1 0)).length : Int)
         case neg => rw [if_neg c24] at H; simp at H
         rw [if_pos c24] at H
         have c24b0 := ag c24
         clear c24
         by_cases c25 : 0 ≤ (rd (af l0 (rd x6_1 0)) x32_2)
         case neg => rw [if_neg c25] at H; simp at H
         rw [if_pos c25] at H
         have c25b0 := ag c25
         clear c25
         by_cases c26 : (rd (af l0 (rd x6_1 0)) x32_2) < (x5_2.length : Int)
         case neg => rw [if_neg c26] at H; simp at H
         rw [if_pos c26] at H
         have c26b0 := ag c26
         clear c26
         by_cases c27 : (rd x5_2 (rd (af l0 (rd x6_1 0)) x32_2)) < 0
         · rw [if_pos c27] at H
           have c27b0 := ag c27
           clear c27
           by_cases c28 : 0 ≤ (rd x6_1 0)
           case neg => rw [if_neg c28] at H; simp at H
           rw [if_pos c28] at H
           have c28b0 := ag c28
           clear c28
           by_cases c29 : (rd x6_1 0) < (x5_2.length : Int)
           case neg => rw [if_neg c29] at H; simp at H
           rw [if_pos c29] at H
           have c29b0 := ag c29
           clear c29
           obtain ⟨y497, hy497⟩ : ∃ y_ : List Int, y_ = (x5_2.set ((rd (af l0 (rd x6_1 0)) x32_2) : Int).toNat (wrap64 ((rd x5_2 (rd x6_1 0)) + 1))) := ⟨_, rfl⟩
           replace H : (if x6_2.length < 17592186044416 then (cC k2 l0 y497 (x6_2 ++ [rd (af l0 (rd x6_1 0)) x32_2]) (rd x6_1 0) (af l0 (rd x6_1 0)) ((af l0 (rd x6_1 0)).length : Int) (wrap64 (x32_2 + 1))) else (none)) = some r := by first | (rw [hy497]; with_reducible exact H) | (have H2_ := (Option.bind_some _ _).symm.trans H; rw [hy497]; with_reducible exact H2_) | (have H2_ := (Option.bind_some _ _).symm.trans H; with_reducible exact H2_) | with_reducible exact H | (rw [hy497]; exact H) | exact H
           have Ny497 := Aside0.mk hy497
           clear hy497
           by_cases c31 : x6_2.length < 17592186044416
           case neg => rw [if_neg c31] at H; simp at H
           rw [if_pos c31] at H
           have LMc31 := Aside0.mk c31
           clear c31
           obtain ⟨y498, hy498⟩ : ∃ y_ : List Int, y_ = (x6_2 ++ [rd (af l0 (rd x6_1 0)) x32_2]) := ⟨_, rfl⟩
           replace H : (cC k2 l0 y497 y498 (rd x6_1 0) (af l0 (rd x6_1 0)) ((af l0 (rd x6_1 0)).length : Int) (wrap64 (x32_2 + 1))) = some r := by first | (rw [hy498]; with_reducible exact H) | (have H2_ := (Option.bind_some _ _).symm.trans H; rw [hy498]; with_reducible exact H2_) | (have H2_ := (Option.bind_some _ _).symm.trans H; with_reducible exact H2_) | with_reducible exact H | (rw [hy498]; exact H) | exact H
           have Ny498 := Aside0.mk hy498
           clear hy498
           have H' := Aside0.mk H
           clear H
           have p494 : 0 ≤ (x32_2 : Int) := ac zA
           have q494 : x32_2 < ((af l0 (rd x6_1 0)).length : Int) := ac zA
           obtain ⟨ad494, e494, hx494_0⟩ := Kd.at_int HR493_0.out x32_2 p494 q494
           cases e494
           (try replace hx494_0 := (HB.out.cell (aj w _ hx494_0)).trans hx494_0)
           replace p494 := eq_true p494
           replace q494 := eq_true q494
           have p495 : 0 ≤ ((rd (af l0 (rd x6_1 0)) x32_2) : Int) := ac zA
           have q495 : (rd (af l0 (rd x6_1 0)) x32_2) < (x5_2.length : Int) := ac zA
           obtain ⟨ad495, e495, hx495_0⟩ := Kd.at_int (Kd.R_reads' HO_5.out).2.2 (rd (af l0 (rd x6_1 0)) x32_2) p495 q495
           obtain rfl : (⟨go6, 0, none⟩ : Addr) = ad495 := (by injection e495)
           (first | simp only [bI] at hx495_0 | simp only [ci] at hx495_0 | simp only [Addr.add, Nat.zero_add] at hx495_0 | skip)
           replace p495 := eq_true p495
           replace q495 := eq_true q495
           have p496 : 0 ≤ ((rd x6_1 0) : Int) := ac zA
           have q496 : (rd x6_1 0) < (x5_2.length : Int) := ac zA
           obtain ⟨ad496, e496, hx496_0⟩ := Kd.at_int (Kd.R_reads' HO_5.out).2.2 (rd x6_1 0) p496 q496
           obtain rfl : (⟨go6, 0, none⟩ : Addr) = ad496 := (by injection e496)
           (first | simp only [bI] at hx496_0 | simp only [ci] at hx496_0 | simp only [Addr.add, Nat.zero_add] at hx496_0 | skip)
           replace p496 := eq_true p496
           replace q496 := eq_true q496
           have p30 : 0 ≤ ((rd (af l0 (rd x6_1 0)) x32_2) : Int) := ac zA
           have q30 : ((rd (af l0 (rd x6_1 0)) x32_2) : Int) < ((x5_2.length : Int) : Int) := ac zA
           obtain ⟨hx30_0, hf30_0⟩ := Kd.R_celln 0 HO_5.out ((rd (af l0 (rd x6_1 0)) x32_2) : Int) p30 q30
           replace p30 := eq_true p30
           replace q30 := eq_true q30
           have HP32 := Kd.R_putg HO_5.out ((rd (af l0 (rd x6_1 0)) x32_2) : Int) (wrap64 ((rd x5_2 (rd x6_1 0)) + 1))
           go_wp2_with (first | ((with_reducible refine cG (t := 3) (p := 48) rfl ?_); refine cx (t := 3) (p := 48) (v := ?vo_w33) (w1 := (wr.setCell ⟨go6, ((rd (af l0 (rd x6_1 0)) x32_2) : Int).toNat, none⟩ (.int .i64 (wrap64 ((rd x5_2 (rd x6_1 0)) + 1))))) ?hg ?ho ?hn ?hr ?_; (case ho => rfl); (case hg => rfl); (case hn => rfl); (case hr => first | (go_simp; done) | (go_simp; rfl)); intro w33 hw; have hg : wr.grownBy w33 (some go6) := (by rw [hw]; exact HP32.2); have hp_ : Kd.R (Kd.int .i64) 3 w33 w.heap.size (fun k_ => some k_ ≠ (u6 : Value).ownBlock) (.slice (some ⟨go6, 0, none⟩) x5_2.length co6) y497 := (by rw [hw, Ny497.out]; exact HP32.1); clear HP32; replace HO_5 := zM (hp_); replace HO_6 := zM (Kd.Q_after (v := (.slice (some ⟨go6, 0, none⟩) x5_2.length co6)) (v1 := (.slice (some ⟨go6, 0, none⟩) x5_2.length co6)) (ok := (fun _ => True)) (by (with_reducible repeat (first | apply Kd.Q_alloc | apply Kd.Q_drewN | apply Kd.Q_drew)); exact Kd.Q_mono HO_6.out (fun _ hk => ⟨trivial, hk⟩)) hg (.inl rfl)); replace HB := zM ((by rw [hw]; exact bz (HB.out) GB6.out : Below w.heap.size w w33)); clear hg hw hp_) | ((with_reducible refine br (b := .append) (xs := #[.tmp 49, .tmp 51]) rfl ?_); at_builtin; refine Kd.Q_append (Kd.int .i64) (w0 := w) w.heap.size rfl (.tmp 49) (.tmp 51) 25 3 (.int .i64 0) 8 rfl Tryz.underlying25 bq rfl (by decide) (by omega) u6 x6_2 (rd (af l0 (rd x6_1 0)) x32_2) [.int .i64 (rd (af l0 (rd x6_1 0)) x32_2)] (fun k_ => some k_ ≠ (.slice (some ⟨go6, 0, none⟩) x5_2.length co6 : Value).ownBlock) (fun _ => False) rfl rfl ?aP (fun _ hk => hk.elim) ?aF ?aO ?aB ?aS ?aL ?_; (case aP => exact rfl); (case aB => exact zB); (case aF => exact (fun k_ hk => Kd.fresh' (Kd.R_lt (zR HO_5.out)) k_ hk)); (case aO => exact (by (with_reducible repeat (first | apply Kd.Q_alloc | apply Kd.Q_drewN | apply Kd.Q_drew)); exact Kd.Q_mono HO_6.out (fun _ hk => hk.2))); (case aS => exact (ai zB)); (case aL => have := LMc31.out; omega); intro v499 w34 ho hb hg hat; rw [← Ny498.out] at ho; replace HO_5 := zM (Kd.R_after (ok := (fun _ => True)) (by (with_reducible repeat (first | apply Kd.R_alloc | apply Kd.R_drewN | apply Kd.R_drew)); exact Kd.R_mono HO_5.out (fun _ hk => ⟨trivial, hk⟩)) hg hat); replace HB := zM (hb); have HO500 := zM (ho); clear HO_6; clear ho hb hg hat))
           (try simp only [← hl5_2])
           go_roundg k2
           case measure => have := HK1.out; have := HK2.out; omega
           case rel => exact ⟨(y497), (y498), (wrap64 (x32_2 + 1)), (by first | rfl | (simp; done) | (simp [*]; done)), H', ⟨by have := HK1.out; have := HK2.out; omega⟩, ⟨by (try simp only [hl5_1]); (try simp only [hl5_2]); (with_reducible repeat (first | apply Kd.R_alloc | apply Kd.R_drewN | apply Kd.R_drew)); exact Kd.R_mono HO_5.out (fun _ hk => hk.2)⟩, ⟨by (try simp only [hl5_1]); (try simp only [hl5_2]); (with_reducible repeat (first | apply Kd.Q_alloc | apply Kd.Q_drewN | apply Kd.Q_drew)); exact HO500.out⟩, ⟨zB⟩⟩
         · rw [if_neg c27] at H
           have c27b0 : decide ((rd x5_2 (rd (af l0 (rd x6_1 0)) x32_2)) < 0) = false := ar c27
           clear c27
           have H' := Aside0.mk H
           clear H
           have p494 : 0 ≤ (x32_2 : Int) := ac zA
           have q494 : x32_2 < ((af l0 (rd x6_1 0)).length : Int) := ac zA
           obtain ⟨ad494, e494, hx494_0⟩ := Kd.at_int HR493_0.out x32_2 p494 q494
           cases e494
           (try replace hx494_0 := (HB.out.cell (aj w _ hx494_0)).trans hx494_0)
           replace p494 := eq_true p494
           replace q494 := eq_true q494
           have p495 : 0 ≤ ((rd (af l0 (rd x6_1 0)) x32_2) : Int) := ac zA
           have q495 : (rd (af l0 (rd x6_1 0)) x32_2) < (x5_2.length : Int) := ac zA
           obtain ⟨ad495, e495, hx495_0⟩ := Kd.at_int (Kd.R_reads' HO_5.out).2.2 (rd (af l0 (rd x6_1 0)) x32_2) p495 q495
           obtain rfl : (⟨go6, 0, none⟩ : Addr) = ad495 := (by injection e495)
           (first | simp only [bI] at hx495_0 | simp only [ci] at hx495_0 | simp only [Addr.add, Nat.zero_add] at hx495_0 | skip)
           replace p495 := eq_true p495
           replace q495 := eq_true q495
           go_wp2
           (try simp only [← hl5_2])
           go_roundg k2
           case measure => have := HK1.out; have := HK2.out; omega
           case rel => exact ⟨(x5_2), (x6_2), (wrap64 (x32_2 + 1)), (by first | rfl | (simp; done) | (simp [*]; done)), H', ⟨by have := HK1.out; have := HK2.out; omega⟩, ⟨by (try simp only [hl5_1]); (try simp only [hl5_2]); (with_reducible repeat (first | apply Kd.R_alloc | apply Kd.R_drewN | apply Kd.R_drew)); exact HO_5.out⟩, ⟨by (try simp only [hl5_1]); (try simp only [hl5_2]); (with_reducible repeat (first | apply Kd.Q_alloc | apply Kd.Q_drewN | apply Kd.Q_drew)); exact HO_6.out⟩, ⟨zB⟩⟩
       · rw [if_neg c22] at H
         have c22b0 : decide (x32_2 < ((af l0 (rd x6_1 0)).length : Int)) = false := ar c22
         clear c22
         have H' := Aside0.mk H
         clear H
         go_wp2
         (try simp only [← hl5_1, ← hl5_2])
         go_roundg k2
         case measure => have := HK1.out; have := HK2.out; omega
         case rel => exact ⟨(x5_2), (x6_2), H', ⟨by have := HK1.out; have := HK2.out; omega⟩, ⟨by (try simp only [hl5_1]); (try simp only [hl5_2]); (with_reducible repeat (first | apply Kd.R_alloc | apply Kd.R_drewN | apply Kd.R_drew)); exact HO_5.out⟩, ⟨by (try simp only [hl5_1]); (try simp only [hl5_2]); (with_reducible repeat (first | apply Kd.Q_alloc | apply Kd.Q_drewN | apply Kd.Q_drew)); exact HO_6.out⟩, ⟨zB⟩⟩
   · rw [if_neg c15] at H
     have c15b0 : decide (0 < (x6_1.length : Int)) = false := ar c15
     have c15b1 : decide (0 < x6_1.length) = false := ar (by omega)
     clear c15
     obtain rfl := ao H
     obtain ⟨Ao35, co35, eo35, _⟩ := Kd.Q_slice HO_6.out
     subst eo35
     go_wp2
     go_ret
     exact ⟨_, by first | rfl | (simp [al, ak] <;> rfl) | (simp [*, al, ak] <;> rfl), by (with_reducible repeat (first | apply Kd.R_alloc | apply Kd.R_drewN | apply Kd.R_drew)); exact Kd.R_mono HO_5.out (fun _ hk => trivial), zB⟩
def eG (l : List Int) : List Int := l.mergeSort fun x y => decide (x ≤ y)
def fk (l : List Int) : Option (List Int) := if l.length < 4611686018427387904 then some (eG l) else none
theorem kO (l : List Int) : (eG l).length = l.length := List.length_mergeSort l
theorem oq (P0_ : Nat → Prop) (u9000_ : Value) (l0 r : List Int) (w0 w : World) (hB : Below w0.heap.size w0 w) (ho0 : Kd.R (Kd.int .i64) 3 w w0.heap.size P0_ u9000_ l0) (h : fk l0 = some r) :
   Calls Tryz.prog 70 #[u9000_] w fun e w' => e = .returned (.tuple #[]) ∧ Kd.R (Kd.int .i64) 3 w' w0.heap.size (fun k_ => (P0_ k_ ∨ w.heap.size ≤ k_)) u9000_ r ∧ Below w0.heap.size w0 w' ∧ Kept w w' (fun k_ => P0_ k_) := by
 unfold fk at h
 by_cases hl : l0.length < 4611686018427387904
 · rw [if_pos hl] at h
   obtain rfl := ao h
   have hown := Kd.own_of_R (enc := Value.int .i64) ho0
   rcases hown.2 with ⟨hnil, hz⟩ | ⟨g, cap, cur, rfl, hbase, hb, h1, h2, h3, h4⟩
   · have h0 : l0 = [] := by
      cases l0 with
      | nil => rfl
      | cons x t => simp at hz
     subst h0
     subst hnil
     refine (Tryz.slices_Sort_int_none none 0 w).mono ?_
     rintro e w' ⟨rfl, rfl⟩
     refine ⟨rfl, ?_, hB, Kept.refl _ _⟩
     rw [show eG [] = [] from by simp [eG]]
     exact Kd.R_mono ho0 (fun k hk => .inl hk)
   · have hgl : g < w.heap.size := (Array.getElem?_eq_some_iff.1 hb).1
     refine (Tryz.slices_Sort_int g 0 cap l0 w (holds_of_blockI hb (by simpa [aK] using h4)) hgl hl).mono ?_
     rintro e w' ⟨rfl, nn, os, rfl⟩
     have hgr := grownBy_sortedI (w := w) (g := g) (n := nn) (os := os) (eG l0).toArray
     refine ⟨rfl, ?_, hB.grown hgr hB.size (fun k hk => by injection hk with hk; omega), Kept.of_grown hgr (Kept.refl w _) (fun k hk => .inl (ho0.1 k hk))⟩
     refine Kd.R_of_own (enc := Value.int .i64) ?_ (fun k hk => .inl (ho0.1 k hk))
     rw [kO]
     exact ownsRow_sortedI (kO l0) hbase hb h1 h2 h3
 · rw [if_neg hl] at h
   cases h
theorem ti {w : World} {ad : Addr} {v : Value} (h : w.cell? (ad.add 0) = some v) : ∃ b o, ad = ⟨b, o, none⟩ := by
 obtain ⟨b, o, q⟩ := ad
 cases q with
 | none => exact ⟨b, o, rfl⟩
 | some x => exfalso; revert h; unfold Addr.add World.cell?; simp; split <;> simp_all
theorem sJ {w : World} {A : Option Addr} {l : List Int} (h : Kd.C (Kd.int .i64) w A l.length l) (hl : 0 < l.length) : ∃ b o, A = some ⟨b, o, none⟩ ∧ ∀ j, j < l.length → w.cell? ⟨b, o + j, none⟩ = some (.int .i64 (l.getD j 0)) := by
 obtain ⟨ad, rfl, hc⟩ := (Kd.reads_of_C (enc := Value.int .i64) (d := 0) h).2.2 hl
 obtain ⟨b, o, rfl⟩ := ti (hc 0 hl)
 exact ⟨b, o, rfl, fun j hj => by have := hc j hj; rwa [ci] at this⟩
def gf (l : List Int) : Option (List Int) := if l.length * 8 ≤ 140737488355328 then some l else none
theorem ox (A0 : Option Addr) (c0 : Nat) (l0 : List Int) (r : List Int) (w : World) (hr0 : Kd.C (Kd.int .i64) w A0 l0.length l0) (hc0 : l0.length ≤ c0) (h : gf l0 = some r) :
   Calls Tryz.prog 66 #[.slice A0 l0.length c0] w fun e w' => ∃ v0_ : Value, e = .returned (v0_) ∧ Kd.R (Kd.int .i64) 3 w' w.heap.size (fun _ => True) v0_ r ∧ Below w.heap.size w w' := by
 unfold gf at h
 by_cases hs : l0.length * 8 ≤ 140737488355328
 · rw [if_pos hs] at h
   obtain rfl := ao h
   by_cases hl : 0 < l0.length
   · obtain ⟨b, o, rfl, hc⟩ := sJ hr0 hl
     refine (Tryz.slices_Clone_int b o l0.length c0 l0 w (au _) hs hc).mono ?_
     rintro e w' ⟨v, rfl, hown, _, hb⟩
     rw [List.take_length] at hown
     exact ⟨v, rfl, Kd.R_of_own (enc := Value.int .i64) hown (fun _ _ => trivial), hb⟩
   · have h0 : l0 = [] := List.eq_nil_of_length_eq_zero (by omega)
     subst h0
     cases A0 with
     | none =>
      refine (Tryz.slices_Clone_int_nil 0 c0 w).mono ?_
      rintro e w' ⟨rfl, rfl⟩
      exact ⟨_, rfl, Kd.R_nil _ _ _ _ _, Below.refl _ _⟩
     | some a =>
      refine (Tryz.slices_Clone_int_zero a c0 w).mono ?_
      rintro e w' ⟨v, rfl, hown, _, hb⟩
      exact ⟨v, rfl, Kd.R_of_own (enc := Value.int .i64) (xs := []) hown (fun _ _ => trivial), hb⟩
 · rw [if_neg hs] at h
   cases h
end Go.Proofs.YtadjbmcfgjmhkaaGreat.P
