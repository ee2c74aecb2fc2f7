/- slices.BinarySearchFunc at [][]int with []int, for whatever comparison, and the place of a state in a Space; for every world. -/
import Derived.Test.YtpbngmkhpcgpkaaExtC
import Derived.Test.YtpbngmkhpcgpkaaPx25
namespace Go.Proofs.Ytpbngmkhpcgpkaa.P
set_option linter.unusedVariables false
set_option linter.unusedSimpArgs false
open Go.RowKit Go.Proofs.YtpbngmkhpcgpkaaW.PrintWords Go.Proofs.YtpbngmkhpcgpkaaW.PrintLast Go.Proofs.YtpbngmkhpcgpkaaW.PrintMore
theorem at_lists {w : World} {A : Option Addr} {n : Nat} {xs : List (List Int)} (h : Kd.C (Kd.slice 3 (Kd.int .i64)) w A n xs) (i : Nat) (h1 : i < n) : ∃ ad A0 c0, A = some ad ∧ w.cell? (ad.add i) = some (.slice A0 (xs.getD i []).length c0) ∧ (xs.getD i []).length ≤ c0 ∧ (Kd.int .i64).C w A0 (xs.getD i []).length (xs.getD i []) := by
  obtain ⟨ad, c, e, _, hK, hc0⟩ := Kd.C_get h ([] : List Int) (i : Int) (by omega) (by omega)
  have hc : ∀ j u, c[j]? = some u → w.cell? (ad.add ((i : Int).toNat * 1 + j)) = some u := hc0
  obtain ⟨A0, c0, rfl, l0, g0⟩ := hK
  exact ⟨ad, A0, c0, e, by have hq := hc 0 _ rfl; rwa [Nat.mul_one, Nat.add_zero] at hq, l0, g0⟩
/-- Function g compares an element with the target: c; memory that was there stays. -/
def CmpB (g : Nat) (c : List Int → Int) (A1 : Option Addr) (c1 : Nat) (l1 : List Int) (w : World) : Prop :=
  ∀ (W : World) (x : List Int) (A : Option Addr) (cap : Nat), Below w.heap.size w W → Kd.C (Kd.int .i64) W A x.length x → x.length ≤ cap → Calls Try.prog g #[.slice A x.length cap, .slice A1 l1.length c1] W fun e w' => e = .returned (.int .i64 (c x)) ∧ Below W.heap.size W w'
set_option maxRecDepth 100000 in
set_option maxHeartbeats 2000000 in
theorem bsf_lists (g : Nat) (eg : ∀ (args : Array Value) (w : World), (callFunc g args).run Try.prog w = .ok (.enter g args) w) (c : List Int → Int) (A0 : Option Addr) (c0 : Nat) (l0 : List (List Int)) (A1 : Option Addr) (c1 : Nat) (l1 : List Int) (w : World) (hr0 : Kd.C (Kd.slice 3 (Kd.int .i64)) w A0 l0.length l0)
    (hn : l0.length ≤ 4611686018427387904) (hp : CmpB g c A1 c1 l1 w) (R : Nat) (hR : bsGo (fun i => c (l0.getD i [])) (l0.length + 1) 0 l0.length = R) :
   Calls Try.prog 113 #[.slice A0 l0.length c0, .slice A1 l1.length c1, .func (.func g) #[] #[]] w fun e w' => e = .returned (.tuple #[.int .i64 R, .bool (decide (R < l0.length) && (c (l0.getD R []) == 0))]) ∧ Below w.heap.size w w' := by
  have HR := Aside0.mk hR
  have HN := Aside0.mk hn
  have HP := Aside0.mk hp
  have HC := Aside0.mk hr0
  have HRn := Aside0.mk (show R ≤ l0.length by rw [← hR]; exact bsGo_le _ _ _ _ (Nat.zero_le _))
  generalize hbb : (decide (R < l0.length) && (c (l0.getD R []) == 0)) = bb
  have HBB := Aside0.mk hbb
  clear hR hn hp hr0 hbb
  go_enter Try.func113, Try.ntmps113
  go_wp2_with fail
  go_loopg [9, 10] (l0.length + 1) (fun kq v9 v10 w' => ∃ (i j : Nat), v9 = .int .i64 i ∧ v10 = .int .i64 j ∧ Aside0 (i ≤ j ∧ j ≤ l0.length ∧ j - i < kq) ∧ Aside0 (bsGo (fun i => c (l0.getD i [])) kq i j = R) ∧ Aside0 (Below w.heap.size w w'))
  case atStart => exact ⟨0, l0.length, rfl, rfl, ⟨by omega⟩, HR, ⟨Below.refl _ _⟩⟩
  case round =>
    obtain ⟨i, j, rfl, rfl, HI, HG, HB⟩ := hrel
    by_cases q : i < j
    · have hlt : (i + j) / 2 < l0.length := by have := HI.out; omega
      obtain ⟨ad, Ac, cc, e1, hx0, hl0, hrx⟩ := at_lists HC.out ((i + j) / 2) hlt
      cases e1
      replace hx0 := (HB.out.cell (World.block_lt_of_cell? w _ hx0)).trans hx0
      have HX := Aside0.mk (HP.out _ _ _ _ HB.out (Kd.C_below hrx HB.out) hl0)
      clear hrx hl0
      obtain ⟨kq, rfl⟩ : ∃ m, gk = m + 1 := ⟨gk - 1, by have := HI.out; omega⟩
      have HG2 := Aside0.mk (show (if c (l0.getD ((i + j) / 2) []) < 0 then bsGo (fun i => c (l0.getD i [])) kq ((i + j) / 2 + 1) j else bsGo (fun i => c (l0.getD i [])) kq i ((i + j) / 2)) = R by
        have := HG.out; rw [bsGo, if_pos q] at this; exact this)
      clear HG
      generalize l0.getD ((i + j) / 2) [] = x at hx0 HX HG2
      have q0 : ((i : Int) < (j : Int)) := by omega
      have q1 : decide ((i : Int) < (j : Int)) = true := decide_eq_true q0
      have q1b : decide (i < j) = true := decide_eq_true q
      have q2 : (i : Int) + (j : Int) ≤ 9223372036854775807 := by have := HI.out; have := HN.out; omega
      have HQ := Aside0.mk q
      clear q0 q
      have hlt2 : ((i : Int) + (j : Int)) / 2 < (l0.length : Int) := by omega
      have p0 : (0 : Int) ≤ (i : Int) := by omega
      have p1 : (0 : Int) ≤ (j : Int) := by omega
      by_cases y : c x < 0
      · have y1 : decide (c x < 0) = true := decide_eq_true y
        rw [if_pos y] at HG2
        clear y
        go_wp2_with (go_at_fn g; refine HX.out.mono ?_; rintro e w' ⟨rfl, hb⟩)
        go_roundg kq
        case measure => omega
        case rel => exact ⟨(i + j) / 2 + 1, j, by first | rfl | (simp; done) | go_num, rfl, ⟨by have := HI.out; have := HQ.out; omega⟩, HG2, ⟨below_step HB.out hb⟩⟩
      · have y1 : decide (c x < 0) = false := decide_eq_false y
        rw [if_neg y] at HG2
        clear y
        go_wp2_with (go_at_fn g; refine HX.out.mono ?_; rintro e w' ⟨rfl, hb⟩)
        go_roundg kq
        case measure => omega
        case rel => exact ⟨i, (i + j) / 2, rfl, by first | rfl | (simp; done) | go_num, ⟨by have := HI.out; have := HQ.out; omega⟩, HG2, ⟨below_step HB.out hb⟩⟩
    · have q0 : ¬ ((i : Int) < (j : Int)) := by omega
      have q1 : decide ((i : Int) < (j : Int)) = false := decide_eq_false q0
      have q1b : decide (i < j) = false := decide_eq_false q
      obtain rfl : i = j := by have := HI.out; omega
      obtain ⟨kq, rfl⟩ : ∃ m, gk = m + 1 := ⟨gk - 1, by have := HI.out; omega⟩
      obtain rfl : i = R := by have := HG.out; rwa [bsGo_done] at this
      clear HG q0 q
      by_cases z : i < l0.length
      · obtain ⟨ad, Ac, cc, e1, hx0, hl0, hrx⟩ := at_lists HC.out i z
        cases e1
        replace hx0 := (HB.out.cell (World.block_lt_of_cell? w _ hx0)).trans hx0
        have HX := Aside0.mk (HP.out _ _ _ _ HB.out (Kd.C_below hrx HB.out) hl0)
        clear hrx hl0
        have HBC := Aside0.mk (show (c (l0.getD i []) == 0) = bb by have := HBB.out; rwa [decide_eq_true z, Bool.true_and] at this)
        clear HBB HR
        generalize l0.getD i [] = x at hx0 HX HBC
        have z1 : decide ((i : Int) < (l0.length : Int)) = true := decide_eq_true (by omega)
        have z1b : decide (i < l0.length) = true := decide_eq_true z
        have p0 : (0 : Int) ≤ (i : Int) := by omega
        have z2 : (i : Int) < (l0.length : Int) := by omega
        replace p0 := eq_true p0
        replace z2 := eq_true z2
        clear z
        go_wp2_with (go_at_fn g; refine HX.out.mono ?_; rintro e w' ⟨rfl, hb⟩)
        go_ret2
        exact ⟨by rw [← HBC.out]; first | rfl | (simp; done), below_step HB.out hb⟩
      · have HBC := Aside0.mk (show false = bb by have := HBB.out; rwa [decide_eq_false z, Bool.false_and] at this)
        clear HBB HR
        have z1 : decide ((i : Int) < (l0.length : Int)) = false := decide_eq_false (by omega)
        have z1b : decide (i < l0.length) = false := decide_eq_false z
        clear z
        go_wp2
        go_ret2
        exact ⟨by rw [← HBC.out]; first | rfl | (simp; done), HB.out⟩
theorem compare_cmpB (A1 : Option Addr) (c1 : Nat) (l1 : List Int) (w : World) (hr1 : Kd.C (Kd.int .i64) w A1 l1.length l1) (hc1 : l1.length ≤ c1) : CmpB 76 (fun x => cmpL x l1) A1 c1 l1 w := by
  intro W x A cap hb hx hcap
  refine (slices_Compare_int_int.calls (x.length + 1) A cap x A1 c1 l1 (cmpL x l1) W hx hcap (Kd.C_below hr1 hb) hc1 (slices_Compare_at x l1 hx.2.1 _ (Nat.lt_succ_self _))).mono ?_
  rintro e w' ⟨rfl, hd⟩
  exact ⟨rfl, hd.below⟩
/-- Where the binary search for l1 ends. -/
def placeR (l0 : List (List Int)) (l1 : List Int) : Nat := bsGo (fun i => cmpL (l0.getD i []) l1) (l0.length + 1) 0 l0.length
def impl_Space_place.f (l0_0 : List (List Int)) (l0_1 : List S68) (l1 : List Int) : Option (Int × Bool) :=
  if l0_0.length ≤ 4611686018427387904 then some ((placeR l0_0 l1 : Int), decide (placeR l0_0 l1 < l0_0.length) && (cmpL (l0_0.getD (placeR l0_0 l1) []) l1 == 0)) else none
set_option maxHeartbeats 1000000 in
theorem impl_Space_place.calls (A0_0 : Option Addr) (c0_0 : Nat) (l0_0 : List (List Int)) (A0_1 : Option Addr) (c0_1 : Nat) (l0_1 : List (S68)) (A1 : Option Addr) (c1 : Nat) (l1 : List Int) (r1 : Int) (r2 : Bool) (w : World) (hr0_0 : Kd.C (Kd.slice 3 (Kd.int .i64)) w A0_0 l0_0.length l0_0) (hc0_0 : l0_0.length ≤ c0_0) (hr0_1 : Kd.C k68 w A0_1 l0_1.length l0_1) (hc0_1 : l0_1.length ≤ c0_1) (hr1 : Kd.C (Kd.int .i64) w A1 l1.length l1) (hc1 : l1.length ≤ c1) (h : impl_Space_place.f l0_0 l0_1 l1 = some (r1, r2)) :
    Calls Try.prog 87 #[.agg #[.slice A0_0 l0_0.length c0_0, .slice A0_1 l0_1.length c0_1], .slice A1 l1.length c1] w fun e w' => e = .returned (.tuple #[.int .i64 r1, .bool r2]) ∧ Below w.heap.size w w' := by
  unfold impl_Space_place.f at h
  by_cases hn : l0_0.length ≤ 4611686018427387904
  case neg => rw [if_neg hn] at h; cases h
  rw [if_pos hn] at h
  simp only [Option.some.injEq, Prod.mk.injEq] at h
  obtain ⟨h1, h2⟩ := h
  subst h1
  have H2 := Aside0.mk h2
  have HN := Aside0.mk hn
  clear h2 hn
  have HB1 := Aside0.mk (below_alloc (Below.refl w.heap.size w) (.cells #[.slice A0_0 l0_0.length c0_0, .slice A0_1 l0_1.length c0_1] 50))
  have HP := Aside0.mk (compare_cmpB A1 c1 l1 _ (Kd.C_below hr1 HB1.out) hc1)
  have HR0 := Aside0.mk (Kd.C_below hr0_0 HB1.out)
  clear hr1 hr0_0 hr0_1
  obtain ⟨R, hR⟩ : ∃ R, placeR l0_0 l1 = R := ⟨_, rfl⟩
  rw [hR] at H2 ⊢
  have HR := Aside0.mk hR
  clear hR
  go_enter Try.func87, Try.ntmps87
  go_wp2_with fail
  go_at_call 113
  refine (bsf_lists _ (enters_of Try.func76 (by kernel_rfl) rfl) _ A0_0 c0_0 l0_0 A1 c1 l1 _ HR0.out HN.out HP.out R HR.out).mono ?_
  rintro e w' ⟨rfl, hb⟩
  rw [H2.out]
  have HB := Aside0.mk (below_step HB1.out hb)
  clear hb
  go_wp2
  go_ret2
  exact ⟨by first | rfl | (simp; done), HB.out⟩
end Go.Proofs.Ytpbngmkhpcgpkaa.P
