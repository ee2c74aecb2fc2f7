/- slices.BinarySearchFunc at [][]int with []int, for whatever comparison, and the place of a state in a Space; for every world. -/
import Derived.Test.YtadjbmcfgjmhkaaGreatSlideWalkG20
import Derived.ProofKit
import Derived.OpenShut
import Derived.Deep.Matrix
import Derived.Lib.SmallJoins
namespace Go.Proofs.YtadjbmcfgjmhkaaGreat.P
set_option maxRecDepth 100000
set_option maxHeartbeats 8000000
set_option linter.unusedVariables false
set_option linter.unusedSimpArgs false
open Go.RowKit YtadjbmcfgjmhkaaGreatW.PrintWords Go.Proofs.YtadjbmcfgjmhkaaGreatW.PrintLast Go.Proofs.YtadjbmcfgjmhkaaGreatW.PrintMore
theorem mH {w : World} {A : Option Addr} {n : Nat} {xs : List (List Int)} (h : Kd.C (Kd.slice 3 (Kd.int .i64)) w A n xs) (i : Nat) (h1 : i < n) : ∃ ad A0 c0, A = some ad ∧ w.cell? (ad.add i) = some (.slice A0 (xs.getD i []).length c0) ∧ (xs.getD i []).length ≤ c0 ∧ (Kd.int .i64).C w A0 (xs.getD i []).length (xs.getD i []) := by
 obtain ⟨ad, c, e, _, hK, hc0⟩ := Kd.C_get h ([] : List Int) (i : Int) (by omega) (by omega)
 have hc : ∀ j u, c[j]? = some u → w.cell? (ad.add ((i : Int).toNat * 1 + j)) = some u := hc0
 obtain ⟨A0, c0, rfl, l0, g0⟩ := hK
 exact ⟨ad, A0, c0, e, by have hq := hc 0 _ rfl; rwa [Nat.mul_one, Nat.add_zero] at hq, l0, g0⟩
def m3 (g : Nat) (c : List Int → Int) (A1 : Option Addr) (c1 : Nat) (l1 : List Int) (w : World) : Prop :=
 ∀ (W : World) (x : List Int) (A : Option Addr) (cap : Nat), Below w.heap.size w W → Kd.C (Kd.int .i64) W A x.length x → x.length ≤ cap → Calls Tryz.prog g #[.slice A x.length cap, .slice A1 l1.length c1] W fun e w' => e = .returned (.int .i64 (c x)) ∧ Below W.heap.size W w'
set_option maxHeartbeats 2000000 in
theorem sN (g : Nat) (eg : ∀ (args : Array Value) (w : World), (callFunc g args).run Tryz.prog w = .ok (.enter g args) w) (c : List Int → Int) (A0 : Option Addr) (c0 : Nat) (l0 : List (List Int)) (A1 : Option Addr) (c1 : Nat) (l1 : List Int) (w : World) (hr0 : Kd.C (Kd.slice 3 (Kd.int .i64)) w A0 l0.length l0)
   (hn : l0.length ≤ 4611686018427387904) (hp : m3 g c A1 c1 l1 w) (R : Nat) (hR : ch (fun i => c (l0.getD i [])) (l0.length + 1) 0 l0.length = R) :
  Calls Tryz.prog 90 #[.slice A0 l0.length c0, .slice A1 l1.length c1, .func (.func g) #[] #[]] w fun e w' => e = .returned (.tuple #[.int .i64 R, .bool (decide (R < l0.length) && (c (l0.getD R []) == 0))]) ∧ Below w.heap.size w w' := by
 have HR := Aside0.mk hR
 have HN := Aside0.mk hn
 have HP := Aside0.mk hp
 have HC := Aside0.mk hr0
 have HRn := Aside0.mk (show R ≤ l0.length by rw [← hR]; exact sO _ _ _ _ (Nat.zero_le _))
 generalize hbb : (decide (R < l0.length) && (c (l0.getD R []) == 0)) = bb
 have HBB := Aside0.mk hbb
 clear hR hn hp hr0 hbb
 go_enter Tryz.func90, Tryz.ntmps90
 go_wp2_with fail
 go_loopg [9, 10] (l0.length + 1) (fun kq v9 v10 w' => ∃ (i j : Nat), v9 = .int .i64 i ∧ v10 = .int .i64 j ∧ Aside0 (i ≤ j ∧ j ≤ l0.length ∧ j - i < kq) ∧ Aside0 (ch (fun i => c (l0.getD i [])) kq i j = R) ∧ Aside0 (Below w.heap.size w w'))
 case atStart => exact ⟨0, l0.length, rfl, rfl, ⟨by omega⟩, HR, ⟨Below.refl _ _⟩⟩
 case round =>
   obtain ⟨i, j, rfl, rfl, HI, HG, HB⟩ := hrel
   by_cases q : i < j
   · have hlt : (i + j) / 2 < l0.length := by have := HI.out; omega
     obtain ⟨ad, Ac, cc, e1, hx0, hl0, hrx⟩ := mH HC.out ((i + j) / 2) hlt
     cases e1
     replace hx0 := (HB.out.cell (aj w _ hx0)).trans hx0
     have HX := Aside0.mk (HP.out _ _ _ _ HB.out (Kd.C_below hrx HB.out) hl0)
     clear hrx hl0
     obtain ⟨kq, rfl⟩ : ∃ m, gk = m + 1 := ⟨gk - 1, by have := HI.out; omega⟩
     have HG2 := Aside0.mk (show (if c (l0.getD ((i + j) / 2) []) < 0 then ch (fun i => c (l0.getD i [])) kq ((i + j) / 2 + 1) j else ch (fun i => c (l0.getD i [])) kq i ((i + j) / 2)) = R by
       have := HG.out; rw [ch, if_pos q] at this; exact this)
     clear HG
     generalize l0.getD ((i + j) / 2) [] = x at hx0 HX HG2
     have q0 : ((i : Int) < (j : Int)) := by omega
     have q1 : decide ((i : Int) < (j : Int)) = true := ag q0
     have q1b : decide (i < j) = true := ag q
     have q2 : (i : Int) + (j : Int) ≤ 9223372036854775807 := by have := HI.out; have := HN.out; omega
     have HQ := Aside0.mk q
     clear q0 q
     have hlt2 : ((i : Int) + (j : Int)) / 2 < (l0.length : Int) := by omega
     have p0 : (0 : Int) ≤ (i : Int) := by omega
     have p1 : (0 : Int) ≤ (j : Int) := by omega
     by_cases y : c x < 0
     · have y1 : decide (c x < 0) = true := ag y
       rw [if_pos y] at HG2
       clear y
       go_wp2_with (go_at_fn g; refine HX.out.mono ?_; rintro e w' ⟨rfl, hb⟩)
       go_roundg kq
       case measure => omega
       case rel => exact ⟨(i + j) / 2 + 1, j, by first | rfl | (simp; done) | go_num, rfl, ⟨by have := HI.out; have := HQ.out; omega⟩, HG2, ⟨ah HB.out hb⟩⟩
     · have y1 : decide (c x < 0) = false := ar y
       rw [if_neg y] at HG2
       clear y
       go_wp2_with (go_at_fn g; refine HX.out.mono ?_; rintro e w' ⟨rfl, hb⟩)
       go_roundg kq
       case measure => omega
       case rel => exact ⟨i, (i + j) / 2, rfl, by first | rfl | (simp; done) | go_num, ⟨by have := HI.out; have := HQ.out; omega⟩, HG2, ⟨ah HB.out hb⟩⟩
   · have q0 : ¬ ((i : Int) < (j : Int)) := by omega
     have q1 : decide ((i : Int) < (j : Int)) = false := ar q0
     have q1b : decide (i < j) = false := ar q
     obtain rfl : i = j := by have := HI.out; omega
     obtain ⟨kq, rfl⟩ : ∃ m, gk = m + 1 := ⟨gk - 1, by have := HI.out; omega⟩
     obtain rfl : i = R := by have := HG.out; rwa [sP] at this
     clear HG q0 q
     by_cases z : i < l0.length
     · obtain ⟨ad, Ac, cc, e1, hx0, hl0, hrx⟩ := mH HC.out i z
       cases e1
       replace hx0 := (HB.out.cell (aj w _ hx0)).trans hx0
       have HX := Aside0.mk (HP.out _ _ _ _ HB.out (Kd.C_below hrx HB.out) hl0)
       clear hrx hl0
       have HBC := Aside0.mk (show (c (l0.getD i []) == 0) = bb by have := HBB.out; rwa [ag z, Bool.true_and] at this)
       clear HBB HR
       generalize l0.getD i [] = x at hx0 HX HBC
       have z1 : decide ((i : Int) < (l0.length : Int)) = true := ag (by omega)
       have z1b : decide (i < l0.length) = true := ag z
       have p0 : (0 : Int) ≤ (i : Int) := by omega
       have z2 : (i : Int) < (l0.length : Int) := by omega
       replace p0 := eq_true p0
       replace z2 := eq_true z2
       clear z
       go_wp2_with (go_at_fn g; refine HX.out.mono ?_; rintro e w' ⟨rfl, hb⟩)
       go_ret2
       exact ⟨by rw [← HBC.out]; first | rfl | (simp; done), ah HB.out hb⟩
     · have HBC := Aside0.mk (show false = bb by have := HBB.out; rwa [ar z, Bool.false_and] at this)
       clear HBB HR
       have z1 : decide ((i : Int) < (l0.length : Int)) = false := ar (by omega)
       have z1b : decide (i < l0.length) = false := ar z
       clear z
       go_wp2
       go_ret2
       exact ⟨by rw [← HBC.out]; first | rfl | (simp; done), HB.out⟩
theorem sA (A1 : Option Addr) (c1 : Nat) (l1 : List Int) (w : World) (hr1 : Kd.C (Kd.int .i64) w A1 l1.length l1) (hc1 : l1.length ≤ c1) : m3 87 (fun x => bH x l1) A1 c1 l1 w := by
 intro W x A cap hb hx hcap
 refine (kQ (x.length + 1) A cap x A1 c1 l1 (bH x l1) W hx hcap (Kd.C_below hr1 hb) hc1 (kR x l1 hx.2.1 _ (Nat.lt_succ_self _))).mono ?_
 rintro e w' ⟨rfl, hd⟩
 exact ⟨rfl, hd.below⟩
def eK (l0 : List (List Int)) (l1 : List Int) : Nat := ch (fun i => bH (l0.getD i []) l1) (l0.length + 1) 0 l0.length
def dR (l0_0 : List (List Int)) (l0_1 : List S69) (l1 : List Int) : Option (Int × Bool) :=
 if l0_0.length ≤ 4611686018427387904 then some ((eK l0_0 l1 : Int), decide (eK l0_0 l1 < l0_0.length) && (bH (l0_0.getD (eK l0_0 l1) []) l1 == 0)) else none
set_option maxHeartbeats 1000000 in
theorem l6 (A0_0 : Option Addr) (c0_0 : Nat) (l0_0 : List (List Int)) (A0_1 : Option Addr) (c0_1 : Nat) (l0_1 : List (S69)) (A1 : Option Addr) (c1 : Nat) (l1 : List Int) (r1 : Int) (r2 : Bool) (w : World) (hr0_0 : Kd.C (Kd.slice 3 (Kd.int .i64)) w A0_0 l0_0.length l0_0) (hc0_0 : l0_0.length ≤ c0_0) (hr0_1 : Kd.C k69 w A0_1 l0_1.length l0_1) (hc0_1 : l0_1.length ≤ c0_1) (hr1 : Kd.C (Kd.int .i64) w A1 l1.length l1) (hc1 : l1.length ≤ c1) (h : dR l0_0 l0_1 l1 = some (r1, r2)) :
  Calls Tryz.prog 64 #[.agg #[.slice A0_0 l0_0.length c0_0, .slice A0_1 l0_1.length c0_1], .slice A1 l1.length c1] w fun e w' => e = .returned (.tuple #[.int .i64 r1, .bool r2]) ∧ Below w.heap.size w w' := by
 unfold dR at h
 by_cases hn : l0_0.length ≤ 4611686018427387904
 case neg => rw [if_neg hn] at h; cases h
 rw [if_pos hn] at h
 simp only [Option.some.injEq, Prod.mk.injEq] at h
 obtain ⟨h1, h2⟩ := h
 subst h1
 have H2 := Aside0.mk h2
 have HN := Aside0.mk hn
 clear h2 hn
 have HB1 := Aside0.mk (bp (Below.refl w.heap.size w) (.cells #[.slice A0_0 l0_0.length c0_0, .slice A0_1 l0_1.length c0_1] 52))
 have HP := Aside0.mk (sA A1 c1 l1 _ (Kd.C_below hr1 HB1.out) hc1)
 have HR0 := Aside0.mk (Kd.C_below hr0_0 HB1.out)
 clear hr1 hr0_0 hr0_1
 obtain ⟨R, hR⟩ : ∃ R, eK l0_0 l1 = R := ⟨_, rfl⟩
 rw [hR] at H2 ⊢
 have HR := Aside0.mk hR
 clear hR
 go_enter Tryz.func64, Tryz.ntmps64
 go_wp2_with fail
 go_at_call 90
 refine (sN _ (enters_of Tryz.func87 (by kernel_rfl) rfl) _ A0_0 c0_0 l0_0 A1 c1 l1 _ HR0.out HN.out HP.out R HR.out).mono ?_
 rintro e w' ⟨rfl, hb⟩
 rw [H2.out]
 have HB := Aside0.mk (ah HB1.out hb)
 clear hb
 go_wp2
 go_ret2
 exact ⟨by first | rfl | (simp; done), HB.out⟩
attribute [local go_sem] aX aT aU aM aV aN aW aQ
set_option linter.unusedVariables false
set_option linter.unusedSimpArgs false
mutual
def ej : Nat → Int → Int → Bool → List (List Int) → List (S69) → Option ((List (List Int)) × Bool)
 | 0, _, _, _, _, _ => none
 | k + 1, x8, x10, x34, x523000, x523001 => if x34 = true then (some (([] : List (List Int)), false)) else ((fG k x523000 x523001 x8 x10).bind fun bt527 => (dB k bt527.2 (([] : List (List Int))) bt527.1 (bt527.1.length : Int) 0 x523000 x523001))
def dB : Nat → Bool → List (List Int) → List Int → Int → Int → List (List Int) → List (S69) → Option ((List (List Int)) × Bool)
 | 0, _, _, _, _, _, _, _ => none
 | k + 1, x13, x14, x43, x44, x45, x523000, x523001 => if x45 < x44 then (if 0 ≤ x45 then (if x45 < (x43.length : Int) then (if 0 ≤ (rd x43 x45) then (if (rd x43 x45) < (x523000.length : Int) then ((gf (af x523000 (rd x43 x45))).bind fun t536 => (if x14.length < 5864062014805 then (dB k x13 (x14 ++ [t536]) x43 x44 (wrap64 (x45 + 1)) x523000 x523001) else (none))) else (none)) else (none)) else (none)) else (none)) else (some (x14, x13))
end
def ek (k : Nat) (l0_0 : List (List Int)) (l0_1 : List (S69)) (l1 : List Int) (l2 : List Int) : Option ((List (List Int)) × Bool) := (dR l0_0 l0_1 l1).bind fun bt523 => ((dR l0_0 l0_1 l2).bind fun bt525 => (if bt523.2 = true then (ej k bt523.1 bt525.1 (!bt525.2) l0_0 l0_1) else (ej k bt523.1 bt525.1 true l0_0 l0_1)))
theorem qJ (k : Nat) (A0_0 : Option Addr) (c0_0 : Nat) (l0_0 : List (List Int)) (A0_1 : Option Addr) (c0_1 : Nat) (l0_1 : List (S69)) (A1 : Option Addr) (c1 : Nat) (l1 : List Int) (A2 : Option Addr) (c2 : Nat) (l2 : List Int) (r1 : List (List Int)) (r2 : Bool) (w : World) (hr0_0 : Kd.C (Kd.slice 3 (Kd.int .i64)) w A0_0 l0_0.length l0_0) (hc0_0 : l0_0.length ≤ c0_0) (hr0_1 : Kd.C k69 w A0_1 l0_1.length l0_1) (hc0_1 : l0_1.length ≤ c0_1) (hr1 : Kd.C (Kd.int .i64) w A1 l1.length l1) (hc1 : l1.length ≤ c1) (hr2 : Kd.C (Kd.int .i64) w A2 l2.length l2) (hc2 : l2.length ≤ c2) (h : ek k l0_0 l0_1 l1 l2 = some (r1, r2)) :
 Calls Tryz.prog 38 #[.agg #[.slice A0_0 l0_0.length c0_0, .slice A0_1 l0_1.length c0_1], .slice A1 l1.length c1, .slice A2 l2.length c2] w fun e w' => ∃ v0_ : Value, e = .returned (.tuple #[v0_, .bool r2]) ∧ Kd.S (Kd.slice 3 (Kd.int .i64)) 25 w' w.heap.size (fun _ => True) v0_ r1 ∧ Below w.heap.size w w' := by
 have hu52 := Tryz.underlying52
 have HR0_0 := Aside0.mk hr0_0
 have HC0_0 := Aside0.mk hc0_0
 clear hr0_0 hc0_0
 have HR0_1 := Aside0.mk hr0_1
 have HC0_1 := Aside0.mk hc0_1
 clear hr0_1 hc0_1
 have HR1 := Aside0.mk hr1
 have HC1 := Aside0.mk hc1
 clear hr1 hc1
 have HR2 := Aside0.mk hr2
 have HC2 := Aside0.mk hc2
 clear hr2 hc2
 have HB := zM (Below.refl w.heap.size w)
 have H := h
 unfold ek at H
 clear h
 replace H := ax H
 obtain ⟨⟨t523, t524⟩, A40, H⟩ := H
 try dsimp only at H
 have A4 := Aside0.mk A40
 clear A40
 replace H := ax H
 obtain ⟨⟨t525, t526⟩, A50, H⟩ := H
 try dsimp only at H
 have A5 := Aside0.mk A50
 clear A50
 have HC6 := Aside0.mk H
 clear H
 go_enter Tryz.func38, Tryz.ntmps38
 go_upto_region 3 with (first | ((with_reducible refine ap (N := 3) rfl ?_); refine zb (w := w) 3 #[.slice A0_0 l0_0.length c0_0, .slice A0_1 l0_1.length c0_1] 52 zB ?_; clear HB; intro gb522 w7 HB BK522 GW522; have GE522 := GW522; have hcz8_0 := zy BK522 0; have hcz8_1 := zy BK522 1; have hfz8_0 := ae BK522.out 0; have hfz8_1 := ae BK522.out 1) | ((with_reducible refine ay (f := 64) rfl ?_); refine zc 20 Tryz.func64 #[.agg #[.slice A0_0 l0_0.length c0_0, .slice A0_1 l0_1.length c0_1], .slice A1 l1.length c1] ?_; (with_reducible refine (l6 _ _ l0_0 _ _ l0_1 _ _ l1 t523 t524 _ ?side1 ?side2 ?side3 ?side4 ?side5 ?side6 A4.out).mono ?_); (case side1 => exact zC (Kd.C_below HR0_0.out HB.out)); (case side2 => exact HC0_0.out); (case side3 => exact zC (Kd.C_below HR0_1.out HB.out)); (case side4 => exact HC0_1.out); (case side5 => exact zC (Kd.C_below HR1.out HB.out)); (case side6 => exact HC1.out); rintro e w9 ⟨rfl, hb⟩; refine ⟨_, rfl, ?_⟩; replace BK522 := zJ BK522 hb; replace HB := zM (ah zB hb); (try clear hb); have hcz10_0 := zy BK522 0; have hcz10_1 := zy BK522 1; have hfz10_0 := ae BK522.out 0; have hfz10_1 := ae BK522.out 1) | ((with_reducible refine ay (f := 64) rfl ?_); refine zc 26 Tryz.func64 #[.agg #[.slice A0_0 l0_0.length c0_0, .slice A0_1 l0_1.length c0_1], .slice A2 l2.length c2] ?_; (with_reducible refine (l6 _ _ l0_0 _ _ l0_1 _ _ l2 t525 t526 _ ?side1 ?side2 ?side3 ?side4 ?side5 ?side6 A5.out).mono ?_); (case side1 => exact zC (Kd.C_below HR0_0.out HB.out)); (case side2 => exact HC0_0.out); (case side3 => exact zC (Kd.C_below HR0_1.out HB.out)); (case side4 => exact HC0_1.out); (case side5 => exact zC (Kd.C_below HR2.out HB.out)); (case side6 => exact HC2.out); rintro e w11 ⟨rfl, hb⟩; refine ⟨_, rfl, ?_⟩; replace BK522 := zJ BK522 hb; replace HB := zM (ah zB hb); (try clear hb); (try clear hi)))
 (try simp only [Act.put, List.setIfInBounds_toArray, List.set_cons_zero, List.set_cons_succ])
 go_cut [34] (fun v34 wc => ∃ (kq : Nat) (x34_5 : Bool), v34 = .bool x34_5 ∧ Aside0 (ej kq t523 t525 x34_5 l0_0 l0_1 = some (r1, r2)) ∧ Aside0 (kq ≤ k) ∧ Aside0 (wc.heap[gb522]? = some (.cells #[(.slice A0_0 l0_0.length c0_0), (.slice A0_1 l0_1.length c0_1)] 52 (0, 0))) ∧ Aside0 (Below w.heap.size w wc))
 case first =>
  have H := HC6.out
  clear HC6
  by_cases c12 : t524 = true
  · subst c12
    rw [if_pos rfl] at H
    have H' := Aside0.mk H
    clear H
    go_wp2
    go_meet
    case rel => exact ⟨_, (!t526), (by first | rfl | (simp; done) | (simp [*]; done)), H', ⟨by first | omega | exact au _⟩, ⟨zK BK522.out⟩, ⟨zB⟩⟩
  · replace c12 := Bool.eq_false_iff.mpr c12
    subst c12
    rw [if_neg (show ¬ (false = true) by decide)] at H
    have H' := Aside0.mk H
    clear H
    go_wp2
    go_meet
    case rel => exact ⟨_, (true), (by first | rfl | (simp; done) | (simp [*]; done)), H', ⟨by first | omega | exact au _⟩, ⟨zK BK522.out⟩, ⟨zB⟩⟩
 case rest =>
  clear HC6
  try clear c1
  try clear c2
  try clear p2
  try clear c3
  try clear c6
  try clear c12
  try clear hcz10_0
  try clear hcz10_1
  try clear hcz8_0
  try clear hcz8_1
  try clear hfz10_0
  try clear hfz10_1
  try clear hfz8_0
  try clear hfz8_1
  obtain ⟨kq, x34_5, rfl, HA, HJ5, BK522, HB⟩ := hcut
  cases kq with
  | zero => exact absurd HA.out (by simp [ej])
  | succ kj5 =>
   have H := HA.out
   clear HA
   simp only [ej] at H
   by_cases c13 : x34_5 = true
   · subst c13
     rw [if_pos rfl] at H
     simp only [Option.some.injEq, Prod.mk.injEq] at H
     obtain ⟨rfl, rfl⟩ := H
     go_wp2
     go_ret2
     exact ⟨_, by first | rfl | (simp [al, ak] <;> rfl) | (simp [*, al, ak] <;> rfl), by first | exact Kd.S_nil _ _ _ _ _ | exact Kd.N_nil _ _ _ _ _ | exact Kd.V_nil _ _ _ _ _ | exact Kd.Q_nil _ _ _ _ _ | exact Kd.R_nil _ _ _ _ _, zB⟩
   · replace c13 := Bool.eq_false_iff.mpr c13
     subst c13
     rw [if_neg (show ¬ (false = true) by decide)] at H
     replace H := ax H
     obtain ⟨⟨t527, t530⟩, A140, H⟩ := H
     try dsimp only at H
     have A14 := Aside0.mk A140
     clear A140
     obtain ⟨y531, hy531⟩ : ∃ y_ : List (List Int), y_ = (([] : List (List Int))) := ⟨_, rfl⟩
     replace H : (dB kj5 t530 y531 t527 (t527.length : Int) 0 l0_0 l0_1) = some (r1, r2) := by first | (rw [hy531]; with_reducible exact H) | (have H2_ := (Option.bind_some _ _).symm.trans H; rw [hy531]; with_reducible exact H2_) | (have H2_ := (Option.bind_some _ _).symm.trans H; with_reducible exact H2_) | with_reducible exact H | (rw [hy531]; exact H) | exact H
     have Ny531 := Aside0.mk hy531
     clear hy531
     have H' := Aside0.mk H
     clear H
     have hcz15_0 := zy BK522 0
     have hcz15_1 := zy BK522 1
     have hfz15_0 := ae BK522.out 0
     have hfz15_1 := ae BK522.out 1
     go_wp2_with (first | ((with_reducible refine ay (f := 65) rfl ?_); refine zc 39 Tryz.func65 #[.agg #[.slice A0_0 l0_0.length c0_0, .slice A0_1 l0_1.length c0_1], .int .i64 t523, .int .i64 t525] ?_; (with_reducible refine (qR kj5 _ _ l0_0 _ _ l0_1 t523 t525 t527 t530 _ ?side1 ?side2 ?side3 ?side4 A14.out).mono ?_); (case side1 => exact zC (Kd.C_below HR0_0.out HB.out)); (case side2 => exact HC0_0.out); (case side3 => exact zC (Kd.C_below HR0_1.out HB.out)); (case side4 => exact HC0_1.out); rintro e w16 ⟨v528, rfl, ho0, hb⟩; refine ⟨_, rfl, ?_⟩; have HO529 := zM (Kd.R_lower ho0 (ai zB)); replace BK522 := zJ BK522 hb; replace HB := zM (ah zB hb); (try clear hb); (try clear ho0)) | ((with_reducible refine ap (N := 42) rfl ?_); refine Kd.S_lit (Kd.slice 3 (Kd.int .i64)) _ 25 ?hg (N := 42) ?hd (xs := ([] : List (List Int))) (inner := []) (ok := fun _ => True) (okp := fun _ => True) ?hr ?hp (fun _ hk => hk) trivial (Below.refl _ _) (au _) (by simp) ?_; (case hd => rfl); (case hg => rfl); (case hr => first | (go_simp; done) | (go_simp; rfl)); (case hp => exact (Reps.none _ _)); intro v532 w17 ho18 hb hg_ hnew_; clear hg_ hnew_; (first | rw [← Ny531.out] at ho18 | (simp only [Int.reduceToNat] at ho18; rw [← Ny531.out] at ho18)); have HO533 := zM (Kd.S_lower (Kd.S_new' ho18 (Kd.R_lt (zR HO529.out))) (ai zB)); replace HO529 := zM (Kd.R_below (zR HO529.out) hb); replace BK522 := zJ BK522 hb; replace HB := zM (ah zB hb); clear hb ho18; obtain ⟨Ao19, co19, eo19⟩ := Kd.R_slice HO529.out; subst eo19))
     go_loopg [14, 45] kj5 (fun kq v14 v45 w' => ∃ (x14_2 : List (List Int)) (x45_2 : Int), v45 = .int .i64 x45_2 ∧ Aside0 (dB kq t530 x14_2 t527 (t527.length : Int) x45_2 l0_0 l0_1 = some (r1, r2)) ∧ Aside0 (kq ≤ kj5) ∧ Aside0 (Kd.S (Kd.slice 3 (Kd.int .i64)) 25 w' w.heap.size (fun k_ => some k_ ≠ ((.slice Ao19 t527.length co19) : Value).ownBlock) v14 x14_2) ∧ Aside0 (Kd.R (Kd.int .i64) 3 w' w.heap.size (fun _ => True) (.slice Ao19 t527.length co19) t527) ∧ Aside0 (w'.heap[gb522]? = some (.cells #[(.slice A0_0 l0_0.length c0_0), (.slice A0_1 l0_1.length c0_1)] 52 (0, 0))) ∧ Aside0 (Below w.heap.size w w'))
     case atStart => exact ⟨(y531), (0), (by first | rfl | (simp; done) | (simp [*]; done)), H', ⟨au _⟩, ⟨by (with_reducible repeat (first | apply Kd.S_alloc | apply Kd.S_drewN | apply Kd.S_drew)); exact Kd.S_mono HO533.out (fun _ hk => hk.2)⟩, ⟨zR HO529.out⟩, ⟨zK BK522.out⟩, ⟨zB⟩⟩
     case round =>
      clear H'
      try clear c1
      try clear c2
      try clear p2
      try clear c3
      try clear c6
      try clear c12
      try clear c13
      try clear hcz10_0
      try clear hcz10_1
      try clear hcz15_0
      try clear hcz15_1
      try clear hcz8_0
      try clear hcz8_1
      try clear hfz10_0
      try clear hfz10_1
      try clear hfz15_0
      try clear hfz15_1
      try clear hfz8_0
      try clear hfz8_1
      try clear p2
      obtain ⟨x14_2, x45_2, rfl, HA, HK2, HO_14, HO_43, BK522, HB⟩ := hrel
      cases gk with
      | zero => exact absurd HA.out (by simp [dB])
      | succ k2 =>
       have H := HA.out
       clear HA
       simp only [dB] at H
       by_cases c20 : x45_2 < (t527.length : Int)
       · rw [if_pos c20] at H
         have c20b0 := ag c20
         clear c20
         by_cases c21 : 0 ≤ x45_2
         case neg => rw [if_neg c21] at H; simp at H
         rw [if_pos c21] at H
         have c21b0 := ag c21
         clear c21
         by_cases c22 : x45_2 < (t527.length : Int)
         case neg => rw [if_neg c22] at H; simp at H
         rw [if_pos c22] at H
         have c22b0 := ag c22
         clear c22
         by_cases c23 : 0 ≤ (rd t527 x45_2)
         case neg => rw [if_neg c23] at H; simp at H
         rw [if_pos c23] at H
         have c23b0 := ag c23
         clear c23
         by_cases c24 : (rd t527 x45_2) < (l0_0.length : Int)
         case neg => rw [if_neg c24] at H; simp at H
         rw [if_pos c24] at H
         have c24b0 := ag c24
         clear c24
         replace H := ax H
         obtain ⟨t536, A250, H⟩ := H
         try dsimp only at H
         have A25 := Aside0.mk A250
         clear A250
         by_cases c26 : x14_2.length < 5864062014805
         case neg => rw [if_neg c26] at H; simp at H
         rw [if_pos c26] at H
         have LMc26 := Aside0.mk c26
         clear c26
         obtain ⟨y539, hy539⟩ : ∃ y_ : List (List Int), y_ = (x14_2 ++ [t536]) := ⟨_, rfl⟩
         replace H : (dB k2 t530 y539 t527 (t527.length : Int) (wrap64 (x45_2 + 1)) l0_0 l0_1) = some (r1, r2) := by first | (rw [hy539]; with_reducible exact H) | (have H2_ := (Option.bind_some _ _).symm.trans H; rw [hy539]; with_reducible exact H2_) | (have H2_ := (Option.bind_some _ _).symm.trans H; with_reducible exact H2_) | with_reducible exact H | (rw [hy539]; exact H) | exact H
         have Ny539 := Aside0.mk hy539
         clear hy539
         have H' := Aside0.mk H
         clear H
         have p534 : 0 ≤ (x45_2 : Int) := ac zA
         have q534 : x45_2 < (t527.length : Int) := ac zA
         obtain ⟨ad534, e534, hx534_0⟩ := Kd.at_int (Kd.R_reads' HO_43.out).2.2 x45_2 p534 q534
         cases e534
         replace p534 := eq_true p534
         replace q534 := eq_true q534
         have hcz27_0 := zy BK522 0
         have hcz27_1 := zy BK522 1
         have hfz27_0 := ae BK522.out 0
         have hfz27_1 := ae BK522.out 1
         have p535 : 0 ≤ ((rd t527 x45_2) : Int) := ac zA
         have q535 : (rd t527 x45_2) < (l0_0.length : Int) := ac zA
         obtain ⟨ad535, A535_0, c535_0, e535, hx535_0, hl535_0, hi535_0⟩ := bf HR0_0.out (rd t527 x45_2) p535 q535
         cases e535
         (try replace hx535_0 := (HB.out.cell (aj w _ hx535_0)).trans hx535_0)
         have HR535_0 := Aside0.mk hi535_0
         have HC535_0 := Aside0.mk hl535_0
         clear hi535_0 hl535_0
         replace p535 := eq_true p535
         replace q535 := eq_true q535
         go_wp2_with (first | ((with_reducible refine ay (f := 66) rfl ?_); refine zc 55 Tryz.func66 #[.slice A535_0 (af l0_0 (rd t527 x45_2)).length c535_0] ?_; (with_reducible refine (ox _ _ (af l0_0 (rd t527 x45_2)) t536 _ ?side1 ?side2 A25.out).mono ?_); (case side1 => exact zC (Kd.C_below HR535_0.out HB.out)); (case side2 => exact HC535_0.out); rintro e w28 ⟨v537, rfl, ho0, hb⟩; refine ⟨_, rfl, ?_⟩; replace HO_14 := zM (Kd.S_elder' (by (with_reducible repeat (first | apply Kd.S_alloc | apply Kd.S_drewN | apply Kd.S_drew)); exact HO_14.out) (Kd.R_base ho0) hb); have HO538 := zM (Kd.R_lower (Kd.R_new' ho0 (Kd.R_lt (zR HO_43.out))) (ai zB)); replace HO_43 := zM (Kd.R_elder' (zR HO_43.out) (Kd.R_base ho0) hb); replace BK522 := zJ BK522 hb; replace HB := zM (ah zB hb); (try clear hb); (try clear ho0); obtain ⟨Ao30, co30, eo30⟩ := Kd.R_slice HO538.out; subst eo30) | ((with_reducible refine br (b := .append) (xs := #[.tmp 49, .tmp 56]) rfl ?_); at_builtin; refine Kd.S_append (Kd.slice 3 (Kd.int .i64)) (w0 := w) w.heap.size rfl (.tmp 49) (.tmp 56) 27 25 (.slice none 0 0) 24 rfl Tryz.underlying27 bR rfl (by decide) (by omega) u14 x14_2 t536 [.slice Ao30 t536.length co30] (fun k_ => some k_ ≠ (.slice (some ad534) t527.length co19 : Value).ownBlock) (fun k_ => some k_ = (.slice Ao30 t536.length co30 : Value).ownBlock) rfl rfl ?aP (fun k_ hk_ => ((Kd.R_mono (ok' := fun k_ => ((fun k_ => some k_ ≠ (.slice (some ad534) t527.length co19 : Value).ownBlock)) k_ ∧ some k_ ≠ (u14 : Value).ownBlock) (Kd.R_apart' (HO538.out) (Kd.S_typed HO_14.out) (by decide)) (fun k_ hk => ⟨hk.1.2, hk.2⟩))).1 k_ hk_.symm) ?aF ?aO ?aB ?aS ?aL ?_; (case aP => exact Kd.M_row (Kd.R_mono (Kd.R_tight rfl (Kd.R_mono (ok' := fun k_ => ((fun k_ => some k_ ≠ (.slice (some ad534) t527.length co19 : Value).ownBlock)) k_ ∧ some k_ ≠ (u14 : Value).ownBlock) (Kd.R_apart' (HO538.out) (Kd.S_typed HO_14.out) (by decide)) (fun k_ hk => ⟨hk.1.2, hk.2⟩))) (fun _ h_ => h_))); (case aB => exact zB); (case aF => exact (fun k_ hk => Kd.fresh' (Kd.R_lt (zR HO_43.out)) k_ hk)); (case aO => exact (by (with_reducible repeat (first | apply Kd.S_alloc | apply Kd.S_drewN | apply Kd.S_drew)); exact Kd.S_mono HO_14.out (fun k_ hk => ⟨hk.1, fun e_ => hk.2 e_⟩))); (case aS => exact (ai zB)); (case aL => have := LMc26.out; omega); intro v540 w29 ho hb hg hat; rw [← Ny539.out] at ho; replace HO_43 := zM (Kd.R_over' (zR HO_43.out) (Kd.S_typed (by (with_reducible repeat (first | apply Kd.S_alloc | apply Kd.S_drewN | apply Kd.S_drew)); exact HO_14.out)) (by decide) hg); replace BK522 := zM (bc (g := gb522) (o := .cells #[.slice (some ad535) l0_0.length c0_0, .slice A0_1 l0_1.length c0_1] 52 (0, 0)) (zK BK522.out) hg (Kd.S_ne HO_14.out BK522.out (by decide))); replace HB := zM (hb); have HO541 := zM (ho); clear HO_14 HO538; clear ho hb hg hat))
         go_roundg k2
         case measure => have := HJ5.out; have := HK2.out; omega
         case rel => exact ⟨(y539), (wrap64 (x45_2 + 1)), (by first | rfl | (simp; done) | (simp [*]; done)), H', ⟨by have := HJ5.out; have := HK2.out; omega⟩, ⟨by (with_reducible repeat (first | apply Kd.S_alloc | apply Kd.S_drewN | apply Kd.S_drew)); exact HO541.out⟩, ⟨by (with_reducible repeat (first | apply Kd.R_alloc | apply Kd.R_drewN | apply Kd.R_drew)); exact Kd.R_mono HO_43.out (fun _ hk => trivial)⟩, ⟨zK BK522.out⟩, ⟨zB⟩⟩
       · rw [if_neg c20] at H
         have c20b0 : decide (x45_2 < (t527.length : Int)) = false := ar c20
         clear c20
         simp only [Option.some.injEq, Prod.mk.injEq] at H
         obtain ⟨rfl, rfl⟩ := H
         go_wp2
         go_ret2
         exact ⟨_, by first | rfl | (simp [al, ak] <;> rfl) | (simp [*, al, ak] <;> rfl), by (with_reducible repeat (first | apply Kd.S_alloc | apply Kd.S_drewN | apply Kd.S_drew)); exact Kd.S_mono HO_14.out (fun _ hk => trivial), zB⟩
open Go.Sort (SWO Holds PermIn SortedIn putRow putCells mapBlock onCells sorted_unique_holds)
theorem tp {α : Type} {d : Kd α} {e : Nat} {w : World} {base : Nat} {ok : Nat → Prop} {v : Value} {f : Nat → Nat} {zs : List (α × Nat)} (h : (Kd.tag f d).R e w base ok v zs) (hn : (zs.map Prod.snd).Nodup) : Kd.S d e w base ok v (zs.map Prod.fst) := by
 obtain ⟨h0, inner, ho, hr⟩ := h
 refine ⟨fun b => (zs.map Prod.snd).idxOf (f b), h0, inner, by rw [List.length_zipIdx, List.length_map]; exact ho, by rw [List.length_zipIdx, List.length_map]; exact hr.1, fun j p hj => ?_⟩
 rw [List.getElem?_zipIdx, Nat.zero_add] at hj
 obtain ⟨x, hx, rfl⟩ := Option.map_eq_some_iff.1 hj
 rw [List.getElem?_map] at hx
 obtain ⟨z, hz, rfl⟩ := Option.map_eq_some_iff.1 hx
 refine d.M_mono (fun b hb => ⟨hb.1, ?_⟩) (hr.2 j z hz)
 have h2 : f b = z.2 := hb.2
 show (zs.map Prod.snd).idxOf (f b) = j
 obtain ⟨hlt, he⟩ := List.getElem?_eq_some_iff.1 hz
 have e2 : (zs.map Prod.snd)[j]'(by rw [List.length_map]; exact hlt) = z.2 := by rw [List.getElem_map, he]
 rw [h2, ← e2]
 exact hn.idxOf_getElem j _
section
variable {α : Type} [Inhabited α] (enc : α → Value)
theorem re {w : World} {g n : Nat} {os : Array Obj} {cur : Array Value} {e : TypeId} {fr : Nat × Nat} (d : Array α) (hb : w.heap[g]? = some (.cells cur e fr)) :
  (Sort.grow (putRow enc (Sort.ahead w n) g 0 d) os).heap[g]? = some (.cells (putCells enc 0 d cur) e fr) := by
 have hg : g < w.heap.size := (Array.getElem?_eq_some_iff.1 hb).1
 rw [Sort.heap_grow_old _ _ (by simpa using hg)]
 simp [putRow, mapBlock, Sort.ahead, Array.getElem?_modify, hb, onCells]
theorem me {w : World} {g n : Nat} {os : Array Obj} (d : Array α) : w.grownBy (Sort.grow (putRow enc (Sort.ahead w n) g 0 d) os) (some g) := by
 refine ⟨rfl, rfl, rfl, by simp, fun k hk hne => ?_⟩
 rw [Sort.heap_grow_old _ _ (by simpa using hk)]
 have : g ≠ k := fun e => hne (by rw [e])
 simp [putRow, mapBlock, Sort.ahead, Array.getElem?_modify, this]
theorem nr (cur : Array Value) (ts : List α) (h : ts.length ≤ cur.size) : (putCells enc 0 ts.toArray cur).toList.take ts.length = ts.map enc := by
 apply List.ext_getElem?
 intro j
 by_cases hj : j < ts.length
 · rw [List.getElem?_take_of_lt hj, Array.getElem?_toList]
   simp [putCells, hj, show j < cur.size by omega]
 · rw [List.getElem?_take_eq_none (by omega), List.getElem?_eq_none (by simp; omega)]
theorem pb {w : World} {base g cap n m : Nat} {e : TypeId} {os : Array Obj} {cur : Array Value} {ts : List α} (hl : ts.length = m) (hbase : base ≤ g) (hb : w.heap[g]? = some (.cells cur e (0, 0)))
  (h1 : m ≤ cap) (h2 : cap ≤ maxLen) (h3 : cur.size = cap * 1) :
  (Sort.grow (putRow enc (Sort.ahead w n) g 0 ts.toArray) os).ownsRow base e 1 (.slice (some ⟨g, 0, none⟩) m cap) m (ts.map enc) :=
 ⟨by simp [hl], .inr ⟨g, cap, _, rfl, hbase, re enc _ hb, h1, h2, by simp [putCells, h3], by rw [Nat.mul_one, ← hl]; exact nr enc cur ts (by omega)⟩⟩
end
theorem sf {n : Nat} (hn : 0 < n) [Inhabited (Fin n)] (j : Nat) (hj : j < n) : ((List.finRange n).toArray)[j]! = ⟨j, hj⟩ := by
 rw [getElem!_pos _ j (by simpa using hj)]
 simp
def m0 (g : Nat) (cf : List Int → List Int → Int) : Prop :=
 ∀ (W : World) (x y : List Int) (A B : Option Addr) (c c' : Nat), Kd.C (Kd.int .i64) W A x.length x → x.length ≤ c → Kd.C (Kd.int .i64) W B y.length y → y.length ≤ c' →
  Calls Tryz.prog g #[.slice A x.length c, .slice B y.length c'] W fun e w' => e = .returned (.int .i64 (cf x y)) ∧ ∃ q os, w' = Sort.grow (W.drewN q) os
set_option maxHeartbeats 2000000 in
theorem ol {ρ ρ' : Shelf.Ren} (L : SlLaysF.n6 Tryz.prog ρ) (L0 : SlLaysF0.n6 Tryz.prog ρ') (F : Nat) (e1 : ρ.f 6 = F) (e2 : ρ'.f 6 = F) (cf : List Int → List Int → Int) (hO : SWO (ltOf cf)) (hT : ∀ x y, ltOf cf x y = false → ltOf cf y x = false → x = y) (g : Nat)
   (eg : ∀ (args : Array Value) (w : World), (callFunc g args).run Tryz.prog w = .ok (.enter g args) w) (hcmp : m0 g cf)
   (P0_ : Nat → Prop) (u9000_ : Value) (l0 : List (List Int)) (w0 w : World) (hB : Below w0.heap.size w0 w) (ho0 : Kd.S (Kd.slice 3 (Kd.int .i64)) 25 w w0.heap.size P0_ u9000_ l0) (hlen : l0.length < 4611686018427387904) :
   Calls Tryz.prog F #[u9000_, .func (.func g) #[] #[]] w fun e w' => e = .returned (.tuple #[]) ∧ Kd.S (Kd.slice 3 (Kd.int .i64)) 25 w' w0.heap.size (fun k_ => (P0_ k_ ∨ w.heap.size ≤ k_)) u9000_ (l0.mergeSort fun x y => !ltOf cf y x) ∧ Below w0.heap.size w0 w' ∧ Kept w w' (fun k_ => P0_ k_) := by
 obtain ⟨f, h0, inner, hown, hr⟩ := ho0
 rw [List.length_zipIdx] at hown
 replace hown : w.ownsRow w0.heap.size 25 1 u9000_ l0.length inner := hown
 have hS : Kd.S (Kd.slice 3 (Kd.int .i64)) 25 w w0.heap.size P0_ u9000_ l0 := ⟨f, h0, inner, by rw [List.length_zipIdx]; exact hown, hr⟩
 by_cases hn : 0 < l0.length
 case neg =>
   have hnil : l0 = [] := List.eq_nil_of_length_eq_zero (by omega)
   subst hnil
   obtain ⟨A, c, rfl⟩ := Kd.S_slice hS
   rw [← e2]
   refine (AnyF.slices_SortFunc_none L0 A c _ w).mono ?_
   rintro e w' ⟨rfl, rfl⟩
   have e0 : ([] : List (List Int)).mergeSort (fun x y => !ltOf cf y x) = [] := by simp
   rw [e0]
   exact ⟨rfl, Kd.S_mono hS (fun k hk => .inl hk), hB, Kept.refl _ _⟩
 rcases hown.2 with ⟨hnil, hz⟩ | ⟨gb, cap, cur, rfl, hbase, hb, h1, h2, h3, h4⟩
 · exact absurd hz (by omega)
 haveI : Inhabited (Fin l0.length) := ⟨⟨0, hn⟩⟩
 have hin : inner.length = l0.length := by have h9 : inner.length = l0.zipIdx.length * 1 := hr.1; rw [List.length_zipIdx] at h9; omega
 have hgl : gb < w.heap.size := (Array.getElem?_eq_some_iff.1 hb).1
 obtain ⟨enc, henc⟩ : ∃ enc : Fin l0.length → Value, ∀ i, enc i = inner[i.val]'(by rw [hin]; exact i.isLt) := ⟨_, fun _ => rfl⟩
 have hrow : ∀ i : Fin l0.length, ∃ v, enc i = v ∧ Kd.R (Kd.int .i64) 3 w w0.heap.size (fun k => (P0_ k ∧ some k ≠ (Value.slice (some ⟨gb, 0, none⟩) l0.length cap).ownBlock) ∧ f k = i.val) v l0[i.val] := by
   intro i
   have h5 := hr.2 i.val (l0[i.val], i.val) (Kd.zip_at (List.getElem?_eq_getElem i.isLt))
   obtain ⟨v, hv, hR⟩ := h5
   refine ⟨v, ?_, hR⟩
   rw [henc i]
   have hl' : i.val < inner.length := by rw [hin]; exact i.isLt
   have h6 : (inner.drop (i.val * 1)).take 1 = [v] := hv
   rw [Nat.mul_one, List.drop_eq_getElem_cons hl', List.take_succ_cons] at h6
   injection h6
 have hone : OneCell enc := fun i => by
   obtain ⟨v, hv, hR⟩ := hrow i
   rw [hv]
   exact (Kd.R_val hR).2
 have hH : Holds enc w gb 0 (List.finRange l0.length).toArray := by
   intro j hj
   have hj' : j < l0.length := by simpa using hj
   refine ⟨?_, by simp [World.frozen?, hb]⟩
   rw [sf hn j hj', henc]
   have h5 : (cur.toList.take (l0.length * 1))[j]? = inner[j]? := by rw [h4]
   rw [Nat.mul_one, List.getElem?_take_of_lt hj', Array.getElem?_toList, List.getElem?_eq_getElem (by rw [hin]; exact hj')] at h5
   simp [World.cell?, hb, h5]
 have hcl : CmpLays1 Tryz.prog g #[] enc (fun i j => cf l0[i.val] l0[j.val]) gb 0 (List.finRange l0.length).toArray.size w := by
   intro m os dk _ x y
   obtain ⟨v, hv, hR⟩ := hrow x
   obtain ⟨u, hu, hQ⟩ := hrow y
   have hgr := me enc (w := w) (g := gb) (n := m) (os := os) dk
   have hR2 := Kd.R_grown hR hgr (fun k hk => by have := hk.1.2; simpa [Value.ownBlock] using this)
   have hQ2 := Kd.R_grown hQ hgr (fun k hk => by have := hk.1.2; simpa [Value.ownBlock] using this)
   obtain ⟨A, c, rfl, hc, hC⟩ := Kd.R_reads hR2
   obtain ⟨B, c', rfl, hc', hC'⟩ := Kd.R_reads hQ2
   rw [hv, hu]
   exact hcmp _ _ _ A B c c' hC hc hC' hc'
 have hO' : SWO (ltOf (fun i j : Fin l0.length => cf l0[i.val] l0[j.val])) := ⟨fun x => hO.irrefl _, fun x y z => hO.trans _ _ _, fun x y z => hO.ntrans _ _ _⟩
 have hd : (List.finRange l0.length).toArray.size = l0.length := by simp
 have hcon := Any.slices_SortFunc L enc hone _ hO' g #[] gb 0 cap _ w eg hcl hH hgl (by rw [hd]; exact hlen)
 rw [hd, e1] at hcon
 refine hcon.mono ?_
 rintro e w' ⟨rfl, d', nn, os, hp, hs, rfl⟩
 have hgr := me enc (w := w) (g := gb) (n := nn) (os := os) d'
 have hdl : d'.toList.length = l0.length := by rw [Array.length_toList, hp.1, hd]
 have hds : d'.size = l0.length := by rw [← Array.length_toList]; exact hdl
 have hperm : d'.toList.Perm (List.finRange l0.length) := by
   have h5 := hp.2.2
   rw [Array.extract_eq_self_of_le (by rw [← Array.length_toList, hdl]; exact au _), Array.extract_eq_self_of_le (by rw [hd]; exact au _)] at h5
   simpa using h5
 have hown2 : (sortWorld enc w gb 0 nn d' os).ownsRow w0.heap.size 25 1 (.slice (some ⟨gb, 0, none⟩) l0.length cap) l0.length (d'.toList.map enc) := by
   have := pb enc (w := w) (n := nn) (os := os) (ts := d'.toList) hdl hbase hb h1 h2 h3
   exact this
 have hmap : (d'.toList.map fun i => (l0[i.val], i.val)).map Prod.fst = d'.toList.map fun i => l0[i.val] := by rw [List.map_map]; rfl
 have hsorted : (d'.toList.map fun i => l0[i.val]) = l0.mergeSort fun x y => !ltOf cf y x := by
   have h6 := sorted_unique_holds hO hT l0.toArray (d'.toList.map fun i => l0[i.val]).toArray ?_ ?_
   · simpa using h6
   · refine ⟨by simpa using hdl, fun i hi => ?_, ?_⟩
     · rw [getElem!_neg _ i (by simp only [List.size_toArray, List.length_map]; simp only [List.size_toArray] at hi; omega), getElem!_neg _ i (by simp only [List.size_toArray] at hi ⊢; omega)]
     · rw [Array.extract_eq_self_of_le (by simp [hdl]), Array.extract_eq_self_of_le (au _)]
       refine (hperm.map _).trans ?_
       have : (List.finRange l0.length).map (fun i => l0[i.val]) = l0 := by
        apply List.ext_getElem (by simp)
        intro j h1 h2
        simp
       rw [this]
   · intro i j _ hij hj
     have hj' : j < l0.length := by simpa using hj
     have h7 := hs i j (Nat.zero_le _) hij hj'
     rw [getElem!_pos (d'.toList.map fun i => l0[i.val]).toArray j (by rw [List.size_toArray, List.length_map, hdl]; exact hj'), getElem!_pos (d'.toList.map fun i => l0[i.val]).toArray i (by rw [List.size_toArray, List.length_map, hdl]; omega)]
     rw [getElem!_pos d' j (by rw [hds]; exact hj'), getElem!_pos d' i (by rw [hds]; omega)] at h7
     simp only [List.getElem_toArray, List.getElem_map, Array.getElem_toList]
     exact h7
 refine ⟨rfl, ?_, hB.grown hgr hB.size (fun k hk => by injection hk with hk; omega), Kept.of_grown hgr (Kept.refl w _) (fun k hk => .inl (h0 k hk))⟩
 rw [← hsorted, ← hmap]
 refine tp (f := f) ?_ ?_
 · refine ⟨fun k hk => .inl (h0 k hk), d'.toList.map enc, ?_, ?_, ?_⟩
   · rw [List.length_map, hdl]
     exact hown2
   · rw [List.length_map, List.length_map]
     show _ = _ * 1
     rw [Nat.mul_one]
   · intro j p hj
     rw [List.getElem?_map] at hj
     obtain ⟨i, hi, rfl⟩ := Option.map_eq_some_iff.1 hj
     obtain ⟨v, hv, hR⟩ := hrow i
     refine ⟨v, ?_, ?_⟩
     · have hj' : j < (d'.toList.map enc).length := by rw [List.length_map]; exact (List.getElem?_eq_some_iff.1 hi).1
       show ((d'.toList.map enc).drop (j * 1)).take 1 = [v]
       rw [Nat.mul_one, List.drop_eq_getElem_cons hj', List.take_succ_cons, List.getElem_map, (List.getElem?_eq_some_iff.1 hi).2, hv]
       rfl
     · exact Kd.R_mono (Kd.R_grown hR hgr (fun k hk => by have := hk.1.2; simpa [Value.ownBlock] using this)) (fun k hk => ⟨⟨.inl hk.1.1, hk.1.2⟩, hk.2⟩)
 · rw [List.map_map]
   refine (hperm.map _).nodup_iff.2 ?_
   have : ((List.finRange l0.length).map (Prod.snd ∘ fun i => (l0[i.val], i.val))) = List.range l0.length := by
     apply List.ext_getElem (by simp)
     intro j h1 h2
     simp
   rw [this]
   exact List.nodup_range
open Go.RowKit Go.Deep Go.ChangeShapes Go.Joins Go.Proofs.YtadjbmcfgjmhkaaGreatW.PrintWords
def gU (l : List Int) : Prop := l.length ≤ 9223372036854775807 ∧ ∀ n ∈ l, (Lit.int .i64 n).wf = true
def ki (l : List S69) : Prop := l.length ≤ 9223372036854775807 ∧ ∀ e ∈ l, (Lit.int .i64 e.f0).wf = true ∧ (Lit.int .i64 e.f1).wf = true
section
variable {H : Type} {enc : TypeId × Value → H} {W : World} {base : Nat} {held : Bool} {fuel : Nat}
theorem read_ints {v : Value} {y : DataW H × List MemPlace} (h : DataW.trod enc Tryz.prog W base (fun _ => true) held fuel 25 [v] = some y) :
   ∃ (A : Option Addr) (c : Nat) (l : List Int), v = .slice A l.length c ∧ l.length ≤ c ∧ Kd.C (Kd.int .i64) W A l.length l ∧ gU l := by
 rcases open_ints Tryz.underlying25 Tryz.underlying3 (by kernel_rfl) h with ⟨hcs, _⟩ | ⟨a, len, cap, zs, hcs, _, hl, hm, hz, _, hcell, hwf⟩
 · injection hcs with hv _
   exact ⟨none, 0, [], hv, au _, ⟨rfl, Nat.zero_le _, fun h0 => absurd h0 (Nat.lt_irrefl _)⟩, ⟨Nat.zero_le _, fun n hn => by cases hn⟩⟩
 · injection hcs with hv _
   simp only [if_true] at hz
   have hlen : (zs.take len).length = len := by rw [List.length_take]; omega
   refine ⟨some a, cap, zs.take len, by rw [hlen]; exact hv, by omega, ⟨rfl, by unfold maxLen at hm; omega, fun _ => ⟨a, rfl, fun j p hj => ⟨[.int .i64 p], rfl, rfl, fun i u hi => ?_⟩⟩⟩, ⟨by rw [hlen]; unfold maxLen at hm; omega, fun n hn => hwf n (List.mem_of_mem_take hn)⟩⟩
   cases i with
   | succ i => simp at hi
   | zero =>
    have hu : Value.int .i64 p = u := by simpa using hi
    subst hu
    have hj2 := (List.getElem?_eq_some_iff.1 hj).1
    rw [hlen] at hj2
    have hj3 : zs[j]? = some p := by rw [List.getElem?_take, if_pos hj2] at hj; exact hj
    have := hcell j (by omega)
    rw [List.getD_eq_getElem?_getD, hj3] at this
    simpa [show (Kd.int .i64).sz = 1 from rfl] using this
theorem read_prs {v : Value} {y : DataW H × List MemPlace} (h : DataW.trod enc Tryz.prog W base (fun _ => true) held fuel 22 [v] = some y) :
   ∃ (A : Option Addr) (c : Nat) (l : List S69), v = .slice A l.length c ∧ l.length ≤ c ∧ Kd.C k69 W A l.length l ∧ ki l := by
 rcases open_slice Tryz.underlying22 h with ⟨hcs, _⟩ | ⟨a, len, cap, m, n, D, Pl, hcs, _, hl, hm, hmm, _, hx⟩
 · injection hcs with hv _
   exact ⟨none, 0, [], hv, au _, ⟨rfl, Nat.zero_le _, fun h0 => absurd h0 (Nat.lt_irrefl _)⟩, ⟨Nat.zero_le _, fun n hn => by cases hn⟩⟩
 · injection hcs with hv _
   have hce : Tryz.prog.cellsOf 69 = 2 := by kernel_rfl
   have hci : Tryz.prog.cellsOf 3 = 1 := by kernel_rfl
   have each : ∀ i, i < len → ∃ e : S69, (W.cell? (a.add (i * 2)) = some (.int .i64 e.f0) ∧ W.cell? (a.add (i * 2 + 1)) = some (.int .i64 e.f1)) ∧ (Lit.int .i64 e.f0).wf = true ∧ (Lit.int .i64 e.f1).wf = true := by
     intro i hi
     obtain ⟨cs', h1, h2⟩ := hx i (by simp only [if_true] at hmm; omega)
     rw [hce] at h1
     obtain ⟨_, hcl, hcc⟩ := World.cells?_some h1
     obtain ⟨c0, c1, rfl⟩ : ∃ c0 c1, cs' = [c0, c1] := by
       match cs', hcl with
       | [c0, c1], _ => exact ⟨c0, c1, rfl⟩
     obtain ⟨xs, q, rfl, hq, _, hxl, he⟩ := DataW.trod_array Tryz.underlying69 h2
     have e0 := he 0 (by omega)
     have e1 := he 1 (by omega)
     simp only [hci] at e0 e1
     obtain ⟨y0, hy0⟩ : ∃ y0, xs[0]? = some y0 := ⟨xs[0], List.getElem?_eq_getElem (by omega)⟩
     obtain ⟨y1, hy1⟩ : ∃ y1, xs[1]? = some y1 := ⟨xs[1], List.getElem?_eq_getElem (by omega)⟩
     rw [hy0] at e0
     rw [hy1] at e1
     obtain ⟨n0, k0, _, w0⟩ := DataW.trod_int Tryz.underlying3 e0
     obtain ⟨n1, k1, _, w1⟩ := DataW.trod_int Tryz.underlying3 e1
     simp at k0 k1
     subst k0
     subst k1
     have f0 := hcc 0 (by omega)
     have f1 := hcc 1 (by omega)
     refine ⟨⟨n0, n1⟩, ⟨?_, ?_⟩, w0, w1⟩
     · rw [Addr.add_add, Nat.add_zero] at f0
       simpa using f0
     · rw [Addr.add_add] at f1
       simpa using f1
   have hlen : ((List.range len).map fun i => if hi : i < len then (each i hi).choose else cJ).length = len := by simp
   refine ⟨some a, cap, (List.range len).map fun i => if hi : i < len then (each i hi).choose else cJ, by rw [hlen]; exact hv, by omega, ⟨rfl, by unfold maxLen at hm; omega, fun _ => ⟨a, rfl, fun j p hj => ?_⟩⟩, ⟨by rw [hlen]; unfold maxLen at hm; omega, ?_⟩⟩
   · have hj2 := (List.getElem?_eq_some_iff.1 hj).1
     rw [hlen] at hj2
     have hp : (each j hj2).choose = p := by
       rw [List.getElem?_map, List.getElem?_range hj2] at hj
       simpa [hj2] using hj
     obtain ⟨⟨h1, h2⟩, _⟩ := (each j hj2).choose_spec
     rw [hp] at h1 h2
     refine ⟨[.int .i64 p.f0, .int .i64 p.f1], rfl, qo W p, fun i u hi => ?_⟩
     rw [show k69.sz = 2 from rfl]
     match i, hi with
     | 0, hi =>
       have hu : Value.int .i64 p.f0 = u := by simpa using hi
       subst hu
       exact h1
     | 1, hi =>
       have hu : Value.int .i64 p.f1 = u := by simpa using hi
       subst hu
       exact h2
   · intro e he
     rw [List.mem_map] at he
     obtain ⟨r, hr, rfl⟩ := he
     have hr2 := List.mem_range.1 hr
     simp only [hr2, dif_pos]
     exact (each r hr2).choose_spec.2
end
def cq : List S69 → Int → Int × List S69
 | [], k => (k, [])
 | _ :: t, k => ((cq t (wrap64 (wrap64 (k + 1) + 1))).1, ⟨k, wrap64 (k + 1)⟩ :: (cq t (wrap64 (wrap64 (k + 1) + 1))).2)
def ju (l0 : List S69) (a1 : Int) : Option (Int × (List S69)) := some (cq l0 a1)
theorem px {W : World} {base g n cap : Nat} {ok : Nat → Prop} {xs : List S69} (h : Kd.R k69 69 W base ok (.slice (some ⟨g, 0, none⟩) n cap) xs) (m : Nat) (hm : m < n) (p q : Int) :
  Kd.R k69 69 ((W.setCell ⟨g, m * 2, none⟩ (.int .i64 p)).setCell ⟨g, m * 2 + 1, none⟩ (.int .i64 q)) base ok (.slice (some ⟨g, 0, none⟩) n cap) (xs.set m ⟨p, q⟩) ∧ W.grownBy ((W.setCell ⟨g, m * 2, none⟩ (.int .i64 p)).setCell ⟨g, m * 2 + 1, none⟩ (.int .i64 q)) (some g) := by
 obtain ⟨c, hcl, hM, hcc, hfz⟩ := Kd.R_elem h (cJ) (m : Int) (by omega) (by omega)
 have hs := Kd.R_seg h (m : Int) (by omega) (by omega) (seg := [.int .i64 p, .int .i64 q]) (j := 0) hcl hcc (by show 0 + 2 ≤ 2; omega) (x' := (⟨p, q⟩ : S69)) (okp := fun k => ok k ∧ k ≠ g)
  (by rw [List.take_zero, List.nil_append, List.drop_eq_nil_of_le (by rw [hcl]; show 2 ≤ 0 + 2; omega), List.append_nil]; exact gz _ _ _ _) (fun k hk => hk)
 rw [Int.toNat_natCast, show k69.sz = 2 from rfl, Nat.add_zero] at hs
 exact hs
theorem oC {α : Type} (done : List α) (l : List α) (m : Nat) (hd : done.length = m) (hm : m < l.length) (x : α) : (done ++ l.drop m).set m x = (done ++ [x]) ++ l.drop (m + 1) := by
 subst hd
 rw [List.drop_eq_getElem_cons hm, List.set_append_right _ _ (au _), Nat.sub_self, List.set_cons_zero, List.append_assoc, List.singleton_append]
set_option maxHeartbeats 2000000 in
theorem pR (P0_ : Nat → Prop) (u9000_ : Value) (l0 : List S69) (a1 : Int) (r1 : Int) (r2 : List S69) (w0 w : World) (hB : Below w0.heap.size w0 w) (ho0 : Kd.R k69 69 w w0.heap.size P0_ u9000_ l0) (h : ju l0 a1 = some (r1, r2)) :
  Calls Tryz.prog 40 #[u9000_, .int .i64 a1] w fun e w' => e = .returned (.int .i64 r1) ∧ Kd.R k69 69 w' w0.heap.size (fun k_ => (P0_ k_ ∨ w.heap.size ≤ k_)) u9000_ r2 ∧ Below w0.heap.size w0 w' ∧ Kept w w' (fun k_ => P0_ k_) := by
 have HO := Aside0.mk (show Kd.R k69 69 w w0.heap.size (fun k_ => (P0_ k_ ∨ w.heap.size ≤ k_)) u9000_ l0 from Kd.R_mono ho0 (fun k_ hk => (.inl hk)))
 have HP := Aside0.mk ho0.1
 unfold ju at h
 have H' := Aside0.mk (ao h)
 obtain ⟨A, c, e0⟩ := Kd.R_slice ho0
 have HL := Aside0.mk (show l0.length ≤ 9223372036854775807 by
  obtain ⟨A', c', _, _, hc⟩ := Kd.R_reads ho0
  exact hc.2.1)
 have HB0 := Aside0.mk hB
 clear h hB ho0
 subst e0
 go_enter Tryz.func40, Tryz.ntmps40
 go_wp2
 go_loopg [5, 1, 6] (l0.length + 1) (fun kq v5 v1 v6 w' => ∃ (m : Nat) (kk : Int) (done : List S69), v5 = .int .i64 m ∧ v1 = .int .i64 kk ∧ Aside0 (m ≤ l0.length) ∧ Aside0 (kq = l0.length - m + 1) ∧ Aside0 (done.length = m) ∧ Aside0 ((cq (l0.drop m) kk).1 = r1 ∧ done ++ (cq (l0.drop m) kk).2 = r2) ∧ Aside0 (Kd.R k69 69 w' w0.heap.size (fun k_ => (P0_ k_ ∨ w.heap.size ≤ k_)) (.slice A l0.length c) (done ++ l0.drop m)) ∧ Aside0 (Below w0.heap.size w0 w') ∧ Aside0 (Kept w w' (fun k_ => P0_ k_)))
 case atStart => exact ⟨0, a1, [], rfl, rfl, ⟨Nat.zero_le _⟩, ⟨by omega⟩, ⟨rfl⟩, ⟨by rw [List.drop_zero, H'.out]; exact ⟨rfl, rfl⟩⟩, ⟨by rw [List.drop_zero]; exact HO.out⟩, HB0, ⟨Kept.refl _ _⟩⟩
 case round =>
  clear H' HO HB0
  obtain ⟨m, kk, done, rfl, rfl, HM, HK1, HD, HA, HO, HB, HK⟩ := hrel
  have HN := Aside0.mk (show (done ++ l0.drop m).length = l0.length by rw [List.length_append, List.length_drop, HD.out]; have := HM.out; omega)
  by_cases c1 : m < l0.length
  · have q1 : (m : Int) < (l0.length : Int) := by omega
    obtain ⟨g, cap, eg, gb, gl, HG⟩ := Kd.R_form HO.out (by rw [HN.out]; omega)
    rw [HN.out] at eg
    injection eg with eA _ ec
    subst eA; subst ec
    have GB := Aside0.mk gb
    have HPg := Aside0.mk (HP.out g rfl)
    obtain ⟨cs, hcl, hM, hcc, hfz⟩ := Kd.R_elem HO.out (cJ) (m : Int) (by omega) q1
    obtain rfl := jy hM
    have hx0 := hcc 0 _ rfl
    have hx1 := hcc 1 _ rfl
    have hf0 := hfz 0
    have hf1 := hfz 1
    rw [Int.toNat_natCast, show k69.sz = 2 from rfl] at hx0 hx1 hf0 hf1
    rw [Nat.add_zero] at hx0 hf0
    have HS := Aside0.mk (px HO.out m c1 kk (wrap64 (kk + 1)))
    have hx1' : (wr.setCell ⟨g, m * 2, none⟩ (.int .i64 kk)).cell? ⟨g, m * 2 + 1, none⟩ = _ := (World.cell?_setCell_other wr _ _ _ (by simp)).trans hx1
    have HE := Aside0.mk (oC done l0 m HD.out c1 (⟨kk, wrap64 (kk + 1)⟩ : S69))
    have H2 : Aside0 ((cq (l0.drop (m + 1)) (wrap64 (wrap64 (kk + 1) + 1))).1 = r1 ∧ (done ++ [⟨kk, wrap64 (kk + 1)⟩]) ++ (cq (l0.drop (m + 1)) (wrap64 (wrap64 (kk + 1) + 1))).2 = r2) := ⟨by
     have e_ := HA.out
     rw [List.drop_eq_getElem_cons c1] at e_
     simp only [cq] at e_
     rw [List.append_assoc, List.singleton_append]
     exact e_⟩
    clear HA hM hcc hfz hcl gl HG gb
    have c1b : decide ((m : Int) < (l0.length : Int)) = true := ag q1
    have c1c : decide (m < l0.length) = true := ag c1
    have p1 : (0 : Int) ≤ (m : Int) := by omega
    have hw1 : (m : Int) + 1 ≤ 9223372036854775807 := by have := HL.out; omega
    replace p1 := eq_true p1
    replace q1 := eq_true q1
    clear c1
    go_wp2
    refine wp_loop_rounds 3 ?_
    rw [rounds_succ]; go_wp2
    rw [rounds_succ]; go_wp2
    rw [rounds_succ]; go_wp2
    go_roundg (l0.length - m)
    case measure => have := HK1.out; have := HM.out; omega
    case rel => exact ⟨m + 1, _, done ++ [⟨kk, wrap64 (kk + 1)⟩], by first | rfl | (simp; done) | go_num, rfl, ⟨by have := of_eq_true q1; omega⟩, ⟨by have := of_eq_true q1; omega⟩, ⟨by rw [List.length_append, HD.out]; rfl⟩, H2, ⟨by rw [← HE.out]; exact HS.out.1⟩, ⟨pa HB.out (some g) HB.out.size HS.out.2 (fun k_ e_ => by injection e_ with e_; subst e_; exact GB.out)⟩, ⟨Kept.of_grown HS.out.2 HK.out (fun k_ e_ => by injection e_ with e_; subst e_; exact .inl HPg.out)⟩⟩
  · have q1 : ¬ (m : Int) < (l0.length : Int) := by omega
    have c1b : decide ((m : Int) < (l0.length : Int)) = false := ar q1
    have c1c : decide (m < l0.length) = false := ar c1
    have H3 : Aside0 (kk = r1 ∧ done ++ l0.drop m = r2) := ⟨by
     have e_ := HA.out
     rw [List.drop_eq_nil_of_le (show l0.length ≤ m by omega)] at e_ ⊢
     exact e_⟩
    clear HA c1 q1
    go_wp2
    go_ret
    exact ⟨by have e_ := H3.out.1; subst e_; rfl, by rw [← H3.out.2]; exact HO.out, HB.out, HK.out⟩
end Go.Proofs.YtadjbmcfgjmhkaaGreat.P
