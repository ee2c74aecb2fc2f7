/- slices.BinarySearchFunc at [][2]int with [2]int, for whatever comparison, and whether a Space has a step; for every world. -/
import Derived.Test.YtpbngmkhpcgpkaaIsWayExtC
import Derived.Deep.RegionHeld3
import Derived.Test.YtpbngmkhpcgpkaaIsWayPx9
import Derived.Test.YtpbngmkhpcgpkaaIsWayPx13
namespace Go.Proofs.Ytpbngmkhpcgpkaa.P
set_option linter.unusedVariables false
set_option linter.unusedSimpArgs false
open Go.RowKit Go.Proofs.YtpbngmkhpcgpkaaW.PrintWords Go.Proofs.YtpbngmkhpcgpkaaW.PrintLast Go.Proofs.YtpbngmkhpcgpkaaW.PrintMore
/-- Function g compares a pair with the target: c; memory that was there stays. -/
def CmpBP (g : Nat) (c : S68 → Int) (t0 t1 : Int) (w : World) : Prop :=
  ∀ (W : World) (x : S68), Below w.heap.size w W → Calls Try.prog g #[.agg #[.int .i64 x.f0, .int .i64 x.f1], .agg #[.int .i64 t0, .int .i64 t1]] W fun e w' => e = .returned (.int .i64 (c x)) ∧ Below W.heap.size W w'
set_option maxRecDepth 100000 in
set_option maxHeartbeats 2000000 in
theorem bsf_prs (g : Nat) (eg : ∀ (args : Array Value) (w : World), (callFunc g args).run Try.prog w = .ok (.enter g args) w) (c : S68 → Int) (A0 : Option Addr) (c0 : Nat) (l0 : List S68) (t0 t1 : Int) (w : World) (hr0 : Kd.C k68 w A0 l0.length l0)
    (hn : l0.length ≤ 4611686018427387904) (hp : CmpBP g c t0 t1 w) (R : Nat) (hR : bsGo (fun i => c (rd_T68 l0 i)) (l0.length + 1) 0 l0.length = R) :
   Calls Try.prog 118 #[.slice A0 l0.length c0, .agg #[.int .i64 t0, .int .i64 t1], .func (.func g) #[] #[]] w fun e w' => e = .returned (.tuple #[.int .i64 R, .bool (decide (R < l0.length) && (c (rd_T68 l0 R) == 0))]) ∧ Below w.heap.size w w' := by
  have HR := Aside0.mk hR
  have HN := Aside0.mk hn
  have HP := Aside0.mk hp
  have HC := Aside0.mk hr0
  have HRn := Aside0.mk (show R ≤ l0.length by rw [← hR]; exact bsGo_le _ _ _ _ (Nat.zero_le _))
  generalize hbb : (decide (R < l0.length) && (c (rd_T68 l0 R) == 0)) = bb
  have HBB := Aside0.mk hbb
  clear hR hn hp hr0 hbb
  obtain ⟨w1, hw1⟩ : ∃ w1, w1 = w.alloc (.cells #[.int .i64 t0, .int .i64 t1] 68) := ⟨_, rfl⟩
  have HW := Aside0.mk (show Below w.heap.size w w1 by rw [hw1]; exact below_alloc (Below.refl _ _) _)
  have HT0 := Aside0.mk (show w1.cell? ⟨w.heap.size, 0, none⟩ = some (.int .i64 t0) by rw [hw1]; go_simp)
  have HT1 := Aside0.mk (show w1.cell? ⟨w.heap.size, 1, none⟩ = some (.int .i64 t1) by rw [hw1]; go_simp)
  have HW1 := Aside0.mk hw1
  clear hw1
  go_enter Try.func118, Try.ntmps118
  go_wp2_with fail
  go_loopg [9, 10] (l0.length + 1) (fun kq v9 v10 w' => ∃ (i j : Nat), v9 = .int .i64 i ∧ v10 = .int .i64 j ∧ Aside0 (i ≤ j ∧ j ≤ l0.length ∧ j - i < kq) ∧ Aside0 (bsGo (fun i => c (rd_T68 l0 i)) kq i j = R) ∧ Aside0 (Below w1.heap.size w1 w'))
  case atStart => exact ⟨0, l0.length, rfl, rfl, ⟨by omega⟩, HR, ⟨by rw [HW1.out]; exact Below.refl _ _⟩⟩
  case round =>
    obtain ⟨i, j, rfl, rfl, HI, HG, HB⟩ := hrel
    have ht0 := pw_cell_below HB.out HT0.out
    have ht1 := pw_cell_below HB.out HT1.out
    have HBw := Aside0.mk (below_step HW.out HB.out)
    by_cases q : i < j
    · have hlt : (i + j) / 2 < l0.length := by have := HI.out; omega
      obtain ⟨ad, e1, hx0, hx1⟩ := at_T68 HC.out (((i + j) / 2 : Nat) : Int) (by omega) (by omega)
      cases e1
      replace hx0 := (HBw.out.cell (World.block_lt_of_cell? w _ hx0)).trans hx0
      replace hx1 := (HBw.out.cell (World.block_lt_of_cell? w _ hx1)).trans hx1
      rw [Int.toNat_natCast] at hx0 hx1
      have HX := Aside0.mk (fun (W : World) (hW : Below wr.heap.size wr W) => HP.out W (rd_T68 l0 (((i + j) / 2 : Nat) : Int)) (below_step HBw.out hW))
      obtain ⟨kq, rfl⟩ : ∃ m, gk = m + 1 := ⟨gk - 1, by have := HI.out; omega⟩
      have HG2 := Aside0.mk (show (if c (rd_T68 l0 (((i + j) / 2 : Nat) : Int)) < 0 then bsGo (fun i => c (rd_T68 l0 i)) kq ((i + j) / 2 + 1) j else bsGo (fun i => c (rd_T68 l0 i)) kq i ((i + j) / 2)) = R by
        have := HG.out; rw [bsGo, if_pos q] at this; exact this)
      clear HG
      generalize rd_T68 l0 (((i + j) / 2 : Nat) : Int) = x at hx0 hx1 HX HG2
      have q0 : ((i : Int) < (j : Int)) := by omega
      have q1 : decide ((i : Int) < (j : Int)) = true := decide_eq_true q0
      have q1b : decide (i < j) = true := decide_eq_true q
      have q2 : (i : Int) + (j : Int) ≤ 9223372036854775807 := by have := HI.out; have := HN.out; omega
      have HQ := Aside0.mk q
      clear q0 q
      have hlt2 : ((i : Int) + (j : Int)) / 2 < (l0.length : Int) := by omega
      have p0 : (0 : Int) ≤ (i : Int) := by omega
      have p1 : (0 : Int) ≤ (j : Int) := by omega
      by_cases y : c x < 0
      · have y1 : decide (c x < 0) = true := decide_eq_true y
        rw [if_pos y] at HG2
        clear y
        go_wp2_with fail
        go_region_with (go_at_fn g; refine (HX.out _ (by repeat (first | exact Below.refl _ _ | apply below_alloc | apply pw_below_drewN | apply below_drew))).mono ?_; rintro e w' ⟨rfl, hb⟩; have hb2 := Aside0.mk (below_step (show Below wr.heap.size wr _ from by repeat (first | exact Below.refl _ _ | apply below_alloc | apply pw_below_drewN | apply below_drew)) hb); clear hb)
        all_goals go_wp2
        all_goals go_roundg kq
        all_goals first
          | (case measure => omega)
          | skip
        all_goals exact ⟨(i + j) / 2 + 1, j, by first | rfl | (simp; done) | go_num, rfl, ⟨by have := HI.out; have := HQ.out; omega⟩, HG2, ⟨below_step HB.out hb2.out⟩⟩
      · have y1 : decide (c x < 0) = false := decide_eq_false y
        rw [if_neg y] at HG2
        clear y
        go_wp2_with fail
        go_region_with (go_at_fn g; refine (HX.out _ (by repeat (first | exact Below.refl _ _ | apply below_alloc | apply pw_below_drewN | apply below_drew))).mono ?_; rintro e w' ⟨rfl, hb⟩; have hb2 := Aside0.mk (below_step (show Below wr.heap.size wr _ from by repeat (first | exact Below.refl _ _ | apply below_alloc | apply pw_below_drewN | apply below_drew)) hb); clear hb)
        all_goals go_wp2
        all_goals go_roundg kq
        all_goals first
          | (case measure => omega)
          | skip
        all_goals exact ⟨i, (i + j) / 2, rfl, by first | rfl | (simp; done) | go_num, ⟨by have := HI.out; have := HQ.out; omega⟩, HG2, ⟨below_step HB.out hb2.out⟩⟩
    · have q0 : ¬ ((i : Int) < (j : Int)) := by omega
      have q1 : decide ((i : Int) < (j : Int)) = false := decide_eq_false q0
      have q1b : decide (i < j) = false := decide_eq_false q
      obtain rfl : i = j := by have := HI.out; omega
      obtain ⟨kq, rfl⟩ : ∃ m, gk = m + 1 := ⟨gk - 1, by have := HI.out; omega⟩
      obtain rfl : i = R := by have := HG.out; rwa [bsGo_done] at this
      clear HG q0 q
      by_cases z : i < l0.length
      · obtain ⟨ad, e1, hx0, hx1⟩ := at_T68 HC.out (i : Int) (by omega) (by omega)
        cases e1
        replace hx0 := (HBw.out.cell (World.block_lt_of_cell? w _ hx0)).trans hx0
        replace hx1 := (HBw.out.cell (World.block_lt_of_cell? w _ hx1)).trans hx1
        rw [Int.toNat_natCast] at hx0 hx1
        have HX := Aside0.mk (fun (W : World) (hW : Below wr.heap.size wr W) => HP.out W (rd_T68 l0 (i : Int)) (below_step HBw.out hW))
        have HBC := Aside0.mk (show (c (rd_T68 l0 i) == 0) = bb by have := HBB.out; rwa [decide_eq_true z, Bool.true_and] at this)
        clear HBB HR
        generalize rd_T68 l0 (i : Int) = x at hx0 hx1 HX HBC
        have z1 : decide ((i : Int) < (l0.length : Int)) = true := decide_eq_true (by omega)
        have z1b : decide (i < l0.length) = true := decide_eq_true z
        have p0 : (0 : Int) ≤ (i : Int) := by omega
        have z2 : (i : Int) < (l0.length : Int) := by omega
        replace p0 := eq_true p0
        replace z2 := eq_true z2
        clear z
        go_wp2_with fail
        go_region_held3 (fun w' => w'.cell? (ad.add (i * 2)) = some (.int .i64 x.f0) ∧ w'.cell? ⟨(ad.add (i * 2)).block, (ad.add (i * 2)).off + 1, none⟩ = some (.int .i64 x.f1) ∧ w'.cell? ⟨w.heap.size, 0, none⟩ = some (.int .i64 t0) ∧ w'.cell? ⟨w.heap.size, 1, none⟩ = some (.int .i64 t1))
          (first
            | go_keep
            | (go_split_ands
               refine ⟨?_, ?_, ?_, ?_⟩ <;> (refine pw_cell_below hb ?_; first | assumption | (go_simp; done))))
          ((go_at_fn g; refine (HX.out _ (by repeat (first | exact Below.refl _ _ | apply below_alloc | apply pw_below_drewN | apply below_drew))).mono ?_; rintro e w' ⟨rfl, hb⟩; have hb2 := Aside0.mk (below_step (show Below wr.heap.size wr _ from by repeat (first | exact Below.refl _ _ | apply below_alloc | apply pw_below_drewN | apply below_drew)) hb)))
        all_goals go_wp2
        all_goals go_ret2
        all_goals exact ⟨by rw [← HBC.out]; first | rfl | (simp; done), below_step HBw.out hb2.out⟩
      · have HBC := Aside0.mk (show false = bb by have := HBB.out; rwa [decide_eq_false z, Bool.false_and] at this)
        clear HBB HR
        have z1 : decide ((i : Int) < (l0.length : Int)) = false := decide_eq_false (by omega)
        have z1b : decide (i < l0.length) = false := decide_eq_false z
        clear z
        go_wp2
        go_quiet (fail)
        go_wp2
        go_ret2
        exact ⟨by rw [← HBC.out]; first | rfl | (simp; done), by repeat (first | exact HBw.out | apply below_alloc | apply pw_below_drewN | apply below_drew1)⟩
theorem comparePairs_cmpB (t : S68) (w : World) : CmpBP 96 (fun x => cmpP x t) t.f0 t.f1 w := by
  intro W x hb
  refine (impl_comparePairs.calls 3 x.f0 x.f1 t.f0 t.f1 (cmpP x t) W (comparePairs_at x t 3 (Nat.le_refl _))).mono ?_
  rintro e w' ⟨rfl, hd⟩
  exact ⟨rfl, hd⟩
/-- Where the binary search for a pair ends. -/
def stepR (l : List S68) (t : S68) : Nat := bsGo (fun i => cmpP (rd_T68 l i) t) (l.length + 1) 0 l.length
def isStepB (l : List S68) (t : S68) : Bool := decide (stepR l t < l.length) && (cmpP (rd_T68 l (stepR l t)) t == 0)
def impl_Space_isStep.f (l0_0 : List (List Int)) (l0_1 : List S68) (a1 : Int) (a2 : Int) : Option Bool :=
  if l0_1.length ≤ 4611686018427387904 then some (isStepB l0_1 ⟨mn a1 a2, mx a1 a2⟩) else none
set_option maxRecDepth 100000 in
set_option maxHeartbeats 2000000 in
theorem impl_Space_isStep.calls (A0_0 : Option Addr) (c0_0 : Nat) (l0_0 : List (List Int)) (A0_1 : Option Addr) (c0_1 : Nat) (l0_1 : List (S68)) (a1 : Int) (a2 : Int) (r : Bool) (w : World) (hr0_0 : Kd.C (Kd.slice 3 (Kd.int .i64)) w A0_0 l0_0.length l0_0) (hc0_0 : l0_0.length ≤ c0_0) (hr0_1 : Kd.C k68 w A0_1 l0_1.length l0_1) (hc0_1 : l0_1.length ≤ c0_1) (h : impl_Space_isStep.f l0_0 l0_1 a1 a2 = some r) :
    Calls Try.prog 93 #[.agg #[.slice A0_0 l0_0.length c0_0, .slice A0_1 l0_1.length c0_1], .int .i64 a1, .int .i64 a2] w fun e w' => e = .returned (.bool r) ∧ Below w.heap.size w w' := by
  unfold impl_Space_isStep.f at h
  by_cases hn : l0_1.length ≤ 4611686018427387904
  case neg => rw [if_neg hn] at h; cases h
  rw [if_pos hn] at h
  have H2 := Aside0.mk (Option.some.inj h)
  have HN := Aside0.mk hn
  have HR0 := Aside0.mk hr0_1
  clear hn h hr0_0 hr0_1
  obtain ⟨w1, hw1⟩ : ∃ w1, w1 = w.alloc (.cells #[.slice A0_0 l0_0.length c0_0, .slice A0_1 l0_1.length c0_1] 50) := ⟨_, rfl⟩
  have HW := Aside0.mk (show Below w.heap.size w w1 by rw [hw1]; exact below_alloc (Below.refl _ _) _)
  have ht1 : w1.cell? ⟨w.heap.size, 1, none⟩ = some (.slice A0_1 l0_1.length c0_1) := by rw [hw1]; go_simp
  have HW1 := Aside0.mk hw1
  clear hw1
  go_enter Try.func93, Try.ntmps93
  go_wp2_with fail
  rw [← HW1.out]
  go_region_held3 (fun w' => w'.cell? ⟨w.heap.size, 1, none⟩ = some (.slice A0_1 l0_1.length c0_1))
    (first
      | go_keep
      | (refine pw_cell_below hb ?_; first | assumption | (go_simp; done)))
    ((first
      | (go_at_call 99; refine (impl_pair.calls a1 a2 (mn a1 a2) (mx a1 a2) _ rfl).mono ?_; rintro e w' ⟨rfl, hb⟩; have hb1 := Aside0.mk (below_step (show Below w1.heap.size w1 _ from by repeat (first | exact Below.refl _ _ | apply below_alloc | apply pw_below_drewN | apply below_drew)) hb))
      | (go_at_call 118; refine (bsf_prs _ (enters_of Try.func96 (by kernel_rfl) rfl) _ A0_1 c0_1 l0_1 (mn a1 a2) (mx a1 a2) _ (Kd.C_below HR0.out (below_step HW.out hb1.out)) HN.out (comparePairs_cmpB ⟨mn a1 a2, mx a1 a2⟩ _) (stepR l0_1 ⟨mn a1 a2, mx a1 a2⟩) rfl).mono ?_; rintro e w2 ⟨rfl, hb⟩; have hb2 := Aside0.mk (below_step hb1.out hb))))
  go_wp2
  go_ret
  exact ⟨by rw [← H2.out]; unfold isStepB; first | rfl | (simp; done), below_step HW.out hb2.out⟩
end Go.Proofs.Ytpbngmkhpcgpkaa.P
