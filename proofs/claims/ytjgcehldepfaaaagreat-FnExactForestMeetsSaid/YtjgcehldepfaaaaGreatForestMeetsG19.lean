import Derived.Test.YtjgcehldepfaaaaGreatForestMeetsG16
namespace Go.Proofs.YtjgcehldepfaaaaGreat.P
open Go.RowKit YtjgcehldepfaaaaGreatW.PrintWords YtjgcehldepfaaaaGreatW.PrintLast YtjgcehldepfaaaaGreatW.PrintMore
attribute [local go_sem] bl bh bi bd bj bf bk bg
set_option maxRecDepth 100000
set_option maxHeartbeats 8000000
set_option linter.unusedVariables false
set_option linter.unusedSimpArgs false
def fc : Nat → List Int → List Int → List Int → Int → Int → Option (Int)
 | 0, _, _, _, _, _ => none
 | k + 1, x0, x1, x9, x10, x11 => if x11 < x10 then (if 0 ≤ x11 then (if x11 < (x9.length : Int) then (if x11 ≥ (x1.length : Int) then (some 1) else (if x11 < (x1.length : Int) then ((fU (rd x9 x11) (rd x1 x11)).bind fun t218 => (if t218 = 0 then (fc k x0 x1 x9 x10 (wrap64 (x11 + 1))) else (some t218))) else (none))) else (none)) else (none)) else (if (x0.length : Int) < (x1.length : Int) then (some (-1)) else (some 0))
def jU (k : Nat) (l0 : List Int) (l1 : List Int) : Option (Int) := fc k l0 l1 l0 (l0.length : Int) 0
theorem lI (k : Nat) (A0 : Option Addr) (c0 : Nat) (l0 : List Int) (A1 : Option Addr) (c1 : Nat) (l1 : List Int) (r : Int) (w : World) (hr0 : Kd.C (Kd.int .i64) w A0 l0.length l0) (hc0 : l0.length ≤ c0) (hr1 : Kd.C (Kd.int .i64) w A1 l1.length l1) (hc1 : l1.length ≤ c1) (h : jU k l0 l1 = some r) :
 Calls Tryz.prog 74 #[.slice A0 l0.length c0, .slice A1 l1.length c1] w fun e w' => e = .returned (.int .i64 r) ∧ Drawn0 w w' := by
 have HR0 := Aside0.mk hr0
 have HC0 := Aside0.mk hc0
 clear hr0 hc0
 have HR1 := Aside0.mk hr1
 have HC1 := Aside0.mk hc1
 clear hr1 hc1
 have H := h
 unfold jU at H
 clear h
 have H' := Aside0.mk H
 clear H
 go_enter Tryz.func74, Tryz.ntmps74
 go_wp2
 go_loopg [11] k (fun kq v11 w' => ∃ (x11_1 : Int), v11 = .int .i64 x11_1 ∧ Aside0 (fc kq l0 l1 l0 (l0.length : Int) x11_1 = some r) ∧ Aside0 (kq ≤ k) ∧ Drawn0 w w')
 case atStart => exact ⟨(0), (by first | rfl | (simp; done) | (simp [*]; done)), H', ⟨ar _⟩, by repeat (first | exact Drawn0.refl _ | apply Drawn0.step)⟩
 case round =>
  clear H'
  try clear c1
  try clear p2
  obtain ⟨x11_1, rfl, HA, HK1, ⟨m1, rfl⟩⟩ := hrel
  cases gk with
  | zero => exact absurd HA.out (by simp [fc])
  | succ k1 =>
   have H := HA.out
   clear HA
   simp only [fc] at H
   by_cases c3 : x11_1 < (l0.length : Int)
   · rw [if_pos c3] at H
     have c3b0 := af c3
     clear c3
     by_cases c4 : 0 ≤ x11_1
     case neg => rw [if_neg c4] at H; simp at H
     rw [if_pos c4] at H
     have c4b0 := af c4
     clear c4
     by_cases c5 : x11_1 < (l0.length : Int)
     case neg => rw [if_neg c5] at H; simp at H
     rw [if_pos c5] at H
     have c5b0 := af c5
     clear c5
     by_cases c6 : x11_1 ≥ (l1.length : Int)
     · rw [if_pos c6] at H
       have c6b0 : decide ((l1.length : Int) ≤ x11_1) = true := af c6
       clear c6
       obtain rfl := ap H
       have p216 : 0 ≤ (x11_1 : Int) := ac zA
       have q216 : x11_1 < (l0.length : Int) := ac zA
       obtain ⟨ad216, e216, hx216_0⟩ := Kd.at_int HR0.out x11_1 p216 q216
       cases e216
       replace p216 := eq_true p216
       replace q216 := eq_true q216
       go_wp2
       go_ret
       exact ⟨by first | rfl | (simp; done) | (simp [*]; done), by repeat (first | exact Drawn0.refl _ | apply Drawn0.step)⟩
     · rw [if_neg c6] at H
       have c6b0 : decide ((l1.length : Int) ≤ x11_1) = false := ao c6
       clear c6
       by_cases c7 : x11_1 < (l1.length : Int)
       case neg => rw [if_neg c7] at H; simp at H
       rw [if_pos c7] at H
       have c7b0 := af c7
       clear c7
       replace H := av H
       obtain ⟨t218, A80, H⟩ := H
       have A8 := Aside0.mk A80
       clear A80
       by_cases c9 : t218 = 0
       · rw [if_pos c9] at H
         have c9b0 : (t218 == 0) = true := beq_iff_eq.mpr c9
         have c9b1 : (t218 != 0) = false := bne_eq_false_iff_eq.mpr c9
         clear c9
         have H' := Aside0.mk H
         clear H
         have p216 : 0 ≤ (x11_1 : Int) := ac zA
         have q216 : x11_1 < (l0.length : Int) := ac zA
         obtain ⟨ad216, e216, hx216_0⟩ := Kd.at_int HR0.out x11_1 p216 q216
         cases e216
         replace p216 := eq_true p216
         replace q216 := eq_true q216
         have p217 : 0 ≤ (x11_1 : Int) := ac zA
         have q217 : x11_1 < (l1.length : Int) := ac zA
         obtain ⟨ad217, e217, hx217_0⟩ := Kd.at_int HR1.out x11_1 p217 q217
         cases e217
         replace p217 := eq_true p217
         replace q217 := eq_true q217
         go_wp2_with (first | ((with_reducible refine ax (f := 90) rfl ?_); refine zc 26 Tryz.func90 #[.int .i64 (rd l0 x11_1), .int .i64 (rd l1 x11_1)] ?_; (with_reducible refine (jB (rd l0 x11_1) (rd l1 x11_1) t218 _ A8.out).mono ?_); rintro e w' ⟨rfl, ⟨nd, rfl⟩⟩; refine ⟨_, rfl, ?_⟩))
         go_roundg k1
         case measure => have := HK1.out; omega
         case rel => exact ⟨(wrap64 (x11_1 + 1)), (by first | rfl | (simp; done) | (simp [*]; done)), H', ⟨by have := HK1.out; omega⟩, by repeat (first | exact Drawn0.refl _ | apply Drawn0.step)⟩
       · rw [if_neg c9] at H
         have c9b0 : (t218 == 0) = false := beq_eq_false_iff_ne.mpr c9
         have c9b1 : (t218 != 0) = true := bne_iff_ne.mpr c9
         obtain rfl := ap H
         have p216 : 0 ≤ (x11_1 : Int) := ac zA
         have q216 : x11_1 < (l0.length : Int) := ac zA
         obtain ⟨ad216, e216, hx216_0⟩ := Kd.at_int HR0.out x11_1 p216 q216
         cases e216
         replace p216 := eq_true p216
         replace q216 := eq_true q216
         have p217 : 0 ≤ (x11_1 : Int) := ac zA
         have q217 : x11_1 < (l1.length : Int) := ac zA
         obtain ⟨ad217, e217, hx217_0⟩ := Kd.at_int HR1.out x11_1 p217 q217
         cases e217
         replace p217 := eq_true p217
         replace q217 := eq_true q217
         go_wp2_with (first | ((with_reducible refine ax (f := 90) rfl ?_); refine zc 26 Tryz.func90 #[.int .i64 (rd l0 x11_1), .int .i64 (rd l1 x11_1)] ?_; (with_reducible refine (jB (rd l0 x11_1) (rd l1 x11_1) t218 _ A8.out).mono ?_); rintro e w' ⟨rfl, ⟨nd, rfl⟩⟩; refine ⟨_, rfl, ?_⟩))
         go_ret
         exact ⟨by first | rfl | (simp; done) | (simp [*]; done), by repeat (first | exact Drawn0.refl _ | apply Drawn0.step)⟩
   · rw [if_neg c3] at H
     have c3b0 : decide (x11_1 < (l0.length : Int)) = false := ao c3
     clear c3
     by_cases c10 : (l0.length : Int) < (l1.length : Int)
     · rw [if_pos c10] at H
       have c10b0 := af c10
       have c10b1 : decide (l0.length < l1.length) = true := af (Int.ofNat_lt.mp c10)
       clear c10
       obtain rfl := ap H
       go_wp2
       go_ret
       exact ⟨by first | rfl | (simp; done) | (simp [*]; done), by repeat (first | exact Drawn0.refl _ | apply Drawn0.step)⟩
     · rw [if_neg c10] at H
       have c10b0 : decide ((l0.length : Int) < (l1.length : Int)) = false := ao c10
       have c10b1 : decide (l0.length < l1.length) = false := ao (fun h => c10 (Int.ofNat_lt.mpr h))
       clear c10
       obtain rfl := ap H
       go_wp2
       go_ret
       exact ⟨by first | rfl | (simp; done) | (simp [*]; done), by repeat (first | exact Drawn0.refl _ | apply Drawn0.step)⟩
def dv (a b : Int) : Int := if a < b then -1 else if a > b then 1 else 0
theorem nG (a b : Int) : fU a b = some (dv a b) := by
 unfold fU iH dv
 simp only [Option.bind_some, bne_self_eq_false, Bool.false_eq_true, if_false]
 split
 · rfl
 · split <;> rfl
def bI : List Int → List Int → Int
 | [], [] => 0
 | [], _ :: _ => -1
 | _ :: _, [] => 1
 | a :: x, b :: y => if dv a b = 0 then bI x y else dv a b
theorem n7 {m n : Nat} (h : m < n) (hn : n ≤ 9223372036854775807) : wrap64 ((m : Int) + 1) = ((m + 1 : Nat) : Int) := by unfold wrap64; omega
theorem po (l0 l1 : List Int) (hl : Aside0 (l0.length ≤ 9223372036854775807)) (d : Nat) : ∀ (k m : Nat), l0.length - m = d → m ≤ l0.length → m ≤ l1.length → d < k →
  fc k l0 l1 l0 (l0.length : Int) (m : Int) = some (bI (l0.drop m) (l1.drop m)) := by
 induction d with
 | zero =>
  intro k m h0 h1 h2 hk
  obtain ⟨k, rfl⟩ : ∃ q, k = q + 1 := ⟨k - 1, by omega⟩
  have e : m = l0.length := by omega
  subst e
  rw [fc, if_neg (by omega), List.drop_length]
  by_cases h : l0.length < l1.length
  · rw [if_pos (by omega), List.drop_eq_getElem_cons h]; rfl
  · have e3 : l1.drop l0.length = [] := List.drop_eq_nil_of_le (by omega)
    rw [if_neg (by omega), e3]; rfl
 | succ d ih =>
  intro k m h0 h1 h2 hk
  obtain ⟨k, rfl⟩ : ∃ q, k = q + 1 := ⟨k - 1, by omega⟩
  have hm : m < l0.length := by omega
  rw [fc, if_pos (by omega), if_pos (by omega), if_pos (by omega)]
  by_cases h : m < l1.length
  · rw [if_neg (by omega), if_pos (by omega), nG, Option.bind_some]
    have e0 : rd l0 m = l0[m] := by simp [rd, List.getD_eq_getElem?_getD, List.getElem?_eq_getElem hm]
    have e1 : rd l1 m = l1[m] := by simp [rd, List.getD_eq_getElem?_getD, List.getElem?_eq_getElem h]
    rw [e0, e1, List.drop_eq_getElem_cons hm, List.drop_eq_getElem_cons h, bI]
    split
    · rw [n7 hm hl.out]
      exact ih k (m + 1) (by omega) (by omega) (by omega) (by omega)
    · rfl
  · have e3 : l1.drop m = [] := List.drop_eq_nil_of_le (by omega)
    rw [if_pos (by omega), List.drop_eq_getElem_cons hm, e3]; rfl
theorem lJ (l0 l1 : List Int) (hl : l0.length ≤ 9223372036854775807) (k : Nat) (hk : l0.length < k) : jU k l0 l1 = some (bI l0 l1) :=
 po l0 l1 ⟨hl⟩ l0.length k 0 (by omega) (Nat.zero_le _) (Nat.zero_le _) hk
def gT (a b : S63) : Int := if dv a.f0 b.f0 = 0 then dv a.f1 b.f1 else dv a.f0 b.f0
theorem tK (a b : S63) (k : Nat) (hk : 3 ≤ k) : gL k a.f0 a.f1 b.f0 b.f1 = some (gT a b) := by
 obtain ⟨k, rfl⟩ : ∃ q, k = q + 3 := ⟨k - 3, by omega⟩
 unfold gL iI
 simp only [nG, Option.bind_some]
 unfold gT
 generalize dv a.f0 b.f0 = x
 generalize dv a.f1 b.f1 = y
 have w1 : wrap64 (0 + 1) = 1 := by unfold wrap64; omega
 have w2 : wrap64 (1 + 1) = 2 := by unfold wrap64; omega
 have r0 : rd [x, y] 0 = x := rfl
 have r1 : rd [x, y] 1 = y := rfl
 have hn : (([x, y] : List Int).length : Int) = 2 := rfl
 rw [hn, fq, if_pos (by omega), if_pos (by omega), hn, if_pos (by omega), r0, w1]
 by_cases h : x = 0
 · rw [if_pos h, if_pos h, fq, if_pos (by omega), if_pos (by omega), hn, if_pos (by omega), r1, w2]
   by_cases h2 : y = 0
   · rw [if_pos h2, fq, if_neg (by omega), h2]; rfl
   · rw [if_neg h2]; rfl
 · rw [if_neg h, if_neg h]; rfl
def cK (c : Nat → Int) : Nat → Nat → Nat → Nat
 | 0, i, _ => i
 | k + 1, i, j => if i < j then if c ((i + j) / 2) < 0 then cK c k ((i + j) / 2 + 1) j else cK c k i ((i + j) / 2) else i
theorem tX (c : Nat → Int) (k : Nat) : ∀ (i j : Nat), i ≤ j → cK c k i j ≤ j := by
 induction k with
 | zero => intro i j h; exact h
 | succ k ih =>
  intro i j h
  rw [cK]
  split
  · split
    · exact ih _ _ (by omega)
    · have := ih i ((i + j) / 2) (by omega); omega
  · exact h
theorem tY (c : Nat → Int) (k i : Nat) : cK c k i i = i := by
 cases k with
 | zero => rfl
 | succ k => rw [cK, if_neg (by omega)]
theorem nO {w : World} {A : Option Addr} {n : Nat} {xs : List (List Int)} (h : Kd.C (Kd.slice 3 (Kd.int .i64)) w A n xs) (i : Nat) (h1 : i < n) : ∃ ad A0 c0, A = some ad ∧ w.cell? (ad.add i) = some (.slice A0 (xs.getD i []).length c0) ∧ (xs.getD i []).length ≤ c0 ∧ (Kd.int .i64).C w A0 (xs.getD i []).length (xs.getD i []) := by
 obtain ⟨ad, c, e, _, hK, hc0⟩ := Kd.C_get h ([] : List Int) (i : Int) (by omega) (by omega)
 have hc : ∀ j u, c[j]? = some u → w.cell? (ad.add ((i : Int).toNat * 1 + j)) = some u := hc0
 obtain ⟨A0, c0, rfl, l0, g0⟩ := hK
 exact ⟨ad, A0, c0, e, by have hq := hc 0 _ rfl; rwa [Nat.mul_one, Nat.add_zero] at hq, l0, g0⟩
def n4 (g : Nat) (c : List Int → Int) (A1 : Option Addr) (c1 : Nat) (l1 : List Int) (w : World) : Prop :=
 ∀ (W : World) (x : List Int) (A : Option Addr) (cap : Nat), Below w.heap.size w W → Kd.C (Kd.int .i64) W A x.length x → x.length ≤ cap → Calls Tryz.prog g #[.slice A x.length cap, .slice A1 l1.length c1] W fun e w' => e = .returned (.int .i64 (c x)) ∧ Below W.heap.size W w'
set_option maxHeartbeats 2000000 in
theorem tW (g : Nat) (eg : ∀ (args : Array Value) (w : World), (callFunc g args).run Tryz.prog w = .ok (.enter g args) w) (c : List Int → Int) (A0 : Option Addr) (c0 : Nat) (l0 : List (List Int)) (A1 : Option Addr) (c1 : Nat) (l1 : List Int) (w : World) (hr0 : Kd.C (Kd.slice 3 (Kd.int .i64)) w A0 l0.length l0)
   (hn : l0.length ≤ 4611686018427387904) (hp : n4 g c A1 c1 l1 w) (R : Nat) (hR : cK (fun i => c (l0.getD i [])) (l0.length + 1) 0 l0.length = R) :
  Calls Tryz.prog 73 #[.slice A0 l0.length c0, .slice A1 l1.length c1, .func (.func g) #[] #[]] w fun e w' => e = .returned (.tuple #[.int .i64 R, .bool (decide (R < l0.length) && (c (l0.getD R []) == 0))]) ∧ Below w.heap.size w w' := by
 have HR := Aside0.mk hR
 have HN := Aside0.mk hn
 have HP := Aside0.mk hp
 have HC := Aside0.mk hr0
 have HRn := Aside0.mk (show R ≤ l0.length by rw [← hR]; exact tX _ _ _ _ (Nat.zero_le _))
 generalize hbb : (decide (R < l0.length) && (c (l0.getD R []) == 0)) = bb
 have HBB := Aside0.mk hbb
 clear hR hn hp hr0 hbb
 go_enter Tryz.func73, Tryz.ntmps73
 go_wp2_with fail
 go_loopg [9, 10] (l0.length + 1) (fun kq v9 v10 w' => ∃ (i j : Nat), v9 = .int .i64 i ∧ v10 = .int .i64 j ∧ Aside0 (i ≤ j ∧ j ≤ l0.length ∧ j - i < kq) ∧ Aside0 (cK (fun i => c (l0.getD i [])) kq i j = R) ∧ Aside0 (Below w.heap.size w w'))
 case atStart => exact ⟨0, l0.length, rfl, rfl, ⟨by omega⟩, HR, ⟨Below.refl _ _⟩⟩
 case round =>
   obtain ⟨i, j, rfl, rfl, HI, HG, HB⟩ := hrel
   by_cases q : i < j
   · have hlt : (i + j) / 2 < l0.length := by have := HI.out; omega
     obtain ⟨ad, Ac, cc, e1, hx0, hl0, hrx⟩ := nO HC.out ((i + j) / 2) hlt
     cases e1
     replace hx0 := (HB.out.cell (aj w _ hx0)).trans hx0
     have HX := Aside0.mk (HP.out _ _ _ _ HB.out (Kd.C_below hrx HB.out) hl0)
     clear hrx hl0
     obtain ⟨kq, rfl⟩ : ∃ m, gk = m + 1 := ⟨gk - 1, by have := HI.out; omega⟩
     have HG2 := Aside0.mk (show (if c (l0.getD ((i + j) / 2) []) < 0 then cK (fun i => c (l0.getD i [])) kq ((i + j) / 2 + 1) j else cK (fun i => c (l0.getD i [])) kq i ((i + j) / 2)) = R by
       have := HG.out; rw [cK, if_pos q] at this; exact this)
     clear HG
     generalize l0.getD ((i + j) / 2) [] = x at hx0 HX HG2
     have q0 : ((i : Int) < (j : Int)) := by omega
     have q1 : decide ((i : Int) < (j : Int)) = true := af q0
     have q1b : decide (i < j) = true := af q
     have q2 : (i : Int) + (j : Int) ≤ 9223372036854775807 := by have := HI.out; have := HN.out; omega
     have HQ := Aside0.mk q
     clear q0 q
     have hlt2 : ((i : Int) + (j : Int)) / 2 < (l0.length : Int) := by omega
     have p0 : (0 : Int) ≤ (i : Int) := by omega
     have p1 : (0 : Int) ≤ (j : Int) := by omega
     by_cases y : c x < 0
     · have y1 : decide (c x < 0) = true := af y
       rw [if_pos y] at HG2
       clear y
       go_wp2_with (go_at_fn g; refine HX.out.mono ?_; rintro e w' ⟨rfl, hb⟩)
       go_roundg kq
       case measure => omega
       case rel => exact ⟨(i + j) / 2 + 1, j, by first | rfl | (simp; done) | go_num, rfl, ⟨by have := HI.out; have := HQ.out; omega⟩, HG2, ⟨ag HB.out hb⟩⟩
     · have y1 : decide (c x < 0) = false := ao y
       rw [if_neg y] at HG2
       clear y
       go_wp2_with (go_at_fn g; refine HX.out.mono ?_; rintro e w' ⟨rfl, hb⟩)
       go_roundg kq
       case measure => omega
       case rel => exact ⟨i, (i + j) / 2, rfl, by first | rfl | (simp; done) | go_num, ⟨by have := HI.out; have := HQ.out; omega⟩, HG2, ⟨ag HB.out hb⟩⟩
   · have q0 : ¬ ((i : Int) < (j : Int)) := by omega
     have q1 : decide ((i : Int) < (j : Int)) = false := ao q0
     have q1b : decide (i < j) = false := ao q
     obtain rfl : i = j := by have := HI.out; omega
     obtain ⟨kq, rfl⟩ : ∃ m, gk = m + 1 := ⟨gk - 1, by have := HI.out; omega⟩
     obtain rfl : i = R := by have := HG.out; rwa [tY] at this
     clear HG q0 q
     by_cases z : i < l0.length
     · obtain ⟨ad, Ac, cc, e1, hx0, hl0, hrx⟩ := nO HC.out i z
       cases e1
       replace hx0 := (HB.out.cell (aj w _ hx0)).trans hx0
       have HX := Aside0.mk (HP.out _ _ _ _ HB.out (Kd.C_below hrx HB.out) hl0)
       clear hrx hl0
       have HBC := Aside0.mk (show (c (l0.getD i []) == 0) = bb by have := HBB.out; rwa [af z, Bool.true_and] at this)
       clear HBB HR
       generalize l0.getD i [] = x at hx0 HX HBC
       have z1 : decide ((i : Int) < (l0.length : Int)) = true := af (by omega)
       have z1b : decide (i < l0.length) = true := af z
       have p0 : (0 : Int) ≤ (i : Int) := by omega
       have z2 : (i : Int) < (l0.length : Int) := by omega
       replace p0 := eq_true p0
       replace z2 := eq_true z2
       clear z
       go_wp2_with (go_at_fn g; refine HX.out.mono ?_; rintro e w' ⟨rfl, hb⟩)
       go_ret2
       exact ⟨by rw [← HBC.out]; first | rfl | (simp; done), ag HB.out hb⟩
     · have HBC := Aside0.mk (show false = bb by have := HBB.out; rwa [ao z, Bool.false_and] at this)
       clear HBB HR
       have z1 : decide ((i : Int) < (l0.length : Int)) = false := ao (by omega)
       have z1b : decide (i < l0.length) = false := ao z
       clear z
       go_wp2
       go_ret2
       exact ⟨by rw [← HBC.out]; first | rfl | (simp; done), HB.out⟩
theorem tI (A1 : Option Addr) (c1 : Nat) (l1 : List Int) (w : World) (hr1 : Kd.C (Kd.int .i64) w A1 l1.length l1) (hc1 : l1.length ≤ c1) : n4 74 (fun x => bI x l1) A1 c1 l1 w := by
 intro W x A cap hb hx hcap
 refine (lI (x.length + 1) A cap x A1 c1 l1 (bI x l1) W hx hcap (Kd.C_below hr1 hb) hc1 (lJ x l1 hx.2.1 _ (Nat.lt_succ_self _))).mono ?_
 rintro e w' ⟨rfl, hd⟩
 exact ⟨rfl, hd.below⟩
def ij (l0 : List (List Int)) (l1 : List Int) : Nat := cK (fun i => bI (l0.getD i []) l1) (l0.length + 1) 0 l0.length
def iz (l0_0 : List (List Int)) (l0_1 : List S63) (l1 : List Int) : Option (Int × Bool) :=
 if l0_0.length ≤ 4611686018427387904 then some ((ij l0_0 l1 : Int), decide (ij l0_0 l1 < l0_0.length) && (bI (l0_0.getD (ij l0_0 l1) []) l1 == 0)) else none
set_option maxHeartbeats 1000000 in
theorem rV (A0_0 : Option Addr) (c0_0 : Nat) (l0_0 : List (List Int)) (A0_1 : Option Addr) (c0_1 : Nat) (l0_1 : List (S63)) (A1 : Option Addr) (c1 : Nat) (l1 : List Int) (r1 : Int) (r2 : Bool) (w : World) (hr0_0 : Kd.C (Kd.slice 3 (Kd.int .i64)) w A0_0 l0_0.length l0_0) (hc0_0 : l0_0.length ≤ c0_0) (hr0_1 : Kd.C k63 w A0_1 l0_1.length l0_1) (hc0_1 : l0_1.length ≤ c0_1) (hr1 : Kd.C (Kd.int .i64) w A1 l1.length l1) (hc1 : l1.length ≤ c1) (h : iz l0_0 l0_1 l1 = some (r1, r2)) :
  Calls Tryz.prog 49 #[.agg #[.slice A0_0 l0_0.length c0_0, .slice A0_1 l0_1.length c0_1], .slice A1 l1.length c1] w fun e w' => e = .returned (.tuple #[.int .i64 r1, .bool r2]) ∧ Below w.heap.size w w' := by
 unfold iz at h
 by_cases hn : l0_0.length ≤ 4611686018427387904
 case neg => rw [if_neg hn] at h; cases h
 rw [if_pos hn] at h
 simp only [Option.some.injEq, Prod.mk.injEq] at h
 obtain ⟨h1, h2⟩ := h
 subst h1
 have H2 := Aside0.mk h2
 have HN := Aside0.mk hn
 clear h2 hn
 have HB1 := Aside0.mk (bC (Below.refl w.heap.size w) (.cells #[.slice A0_0 l0_0.length c0_0, .slice A0_1 l0_1.length c0_1] 67))
 have HP := Aside0.mk (tI A1 c1 l1 _ (Kd.C_below hr1 HB1.out) hc1)
 have HR0 := Aside0.mk (Kd.C_below hr0_0 HB1.out)
 clear hr1 hr0_0 hr0_1
 obtain ⟨R, hR⟩ : ∃ R, ij l0_0 l1 = R := ⟨_, rfl⟩
 rw [hR] at H2 ⊢
 have HR := Aside0.mk hR
 clear hR
 go_enter Tryz.func49, Tryz.ntmps49
 go_wp2_with fail
 go_at_call 73
 refine (tW _ (enters_of Tryz.func74 (by kernel_rfl) rfl) _ A0_0 c0_0 l0_0 A1 c1 l1 _ HR0.out HN.out HP.out R HR.out).mono ?_
 rintro e w' ⟨rfl, hb⟩
 rw [H2.out]
 have HB := Aside0.mk (ag HB1.out hb)
 clear hb
 go_wp2
 go_ret2
 exact ⟨by first | rfl | (simp; done), HB.out⟩
end Go.Proofs.YtjgcehldepfaaaaGreat.P
