-- Written by a program of this session (the kit's print, turned: wip/print/patch.py) out of the translation. Not trusted: Lean checks it.
import Derived.Test.YtnlmijnbfdhdkaaIsTightSetG3
import Derived.Test.YtnlmijnbfdhdkaaIsTightSetG7
import Derived.Test.YtnlmijnbfdhdkaaIsTightSetG8
import Derived.Test.YtnlmijnbfdhdkaaIsTightSetG12
import Derived.ProofKit
import Derived.OpenShut
import Derived.Deep.Matrix
import Derived.Lib.SmallJoins
import Derived.Handy
import Derived.Test.YtnlmijnbfdhdkaaIsTightSetG9
import Derived.Test.YtnlmijnbfdhdkaaIsTightSetG10
import Derived.Test.YtnlmijnbfdhdkaaIsTightSetG11
namespace Go.Proofs.Ytnlmijnbfdhdkaa.P
open Go.RowKit Go.Proofs.YtnlmijnbfdhdkaaW.PrintWords Go.Proofs.YtnlmijnbfdhdkaaW.PrintLast Go.Proofs.YtnlmijnbfdhdkaaW.PrintMore
attribute [local go_sem] max2_int min2_int max_two min_two max_three min_three max_four min_four   -- for this text's walks alone
set_option linter.unusedVariables false
set_option linter.unusedSimpArgs false

/-! ### laws_eqIntA2S: function 62 -/
def laws_eqIntA2S.l0 : Nat → List (S88) → List (S88) → Int → Option (Bool)
 | 0, _, _, _ => none
 | k + 1, x0, x1, x5 => if x5 < (x0.length : Int) then (if 0 ≤ x5 then (if x5 < (x1.length : Int) then ((laws_eqIntA2.f ((rd_T88 x0 x5).f0) ((rd_T88 x0 x5).f1) ((rd_T88 x1 x5).f0) ((rd_T88 x1 x5).f1)).bind fun t309 => (if t309 = true then (laws_eqIntA2S.l0 k x0 x1 (wrap64 (x5 + 1))) else (some false))) else (none)) else (none)) else (some true)
def laws_eqIntA2S.f (k : Nat) (l0 : List (S88)) (l1 : List (S88)) : Option (Bool) := if (l0.length : Int) = (l1.length : Int) then (laws_eqIntA2S.l0 k l0 l1 0) else (some false)
def laws_eqIntA2S.T6 : Bool × List (List Nat × List Nat) := (true, [([], []), ([], []), ([0, 1], [0, 1]), ([2], [2]), ([], []), ([], []), ([4, 5], [4, 5]), ([6], [6]), ([3, 7], [3, 7]), ([8], [8])])
def laws_eqIntA2S.B6 : List Nat := [0, 0, 3, 7, 0, 0, 48, 112, 255, 511]
theorem laws_eqIntA2S.tab6 : rtab .any (opsOf Try.f62 6) = laws_eqIntA2S.T6 := by kernel_rfl
theorem laws_eqIntA2S.bits6 : waitsOk laws_eqIntA2S.T6.2 laws_eqIntA2S.B6 = true := by kernel_rfl
set_option maxHeartbeats 8000000 in
set_option maxRecDepth 100000 in
theorem laws_eqIntA2S.calls (k : Nat) (A0 : Option Addr) (c0 : Nat) (l0 : List (S88)) (A1 : Option Addr) (c1 : Nat) (l1 : List (S88)) (r : Bool) (w : World) (hr0 : Kd.C k88 w A0 l0.length l0) (hc0 : l0.length ≤ c0) (hr1 : Kd.C k88 w A1 l1.length l1) (hc1 : l1.length ≤ c1) (h : laws_eqIntA2S.f k l0 l1 = some r) :
 Calls Try.prog 62 #[.slice A0 l0.length c0, .slice A1 l1.length c1] w fun e w' => e = .returned (.bool r) ∧ Below w.heap.size w w' := by
 have hu88 := Try.underlying88
 have HR0 := Aside0.mk hr0
 have HC0 := Aside0.mk hc0
 clear hr0 hc0
 have HR1 := Aside0.mk hr1
 have HC1 := Aside0.mk hc1
 clear hr1 hc1
 have HB := zM (Below.refl w.heap.size w)
 have H : (if (l0.length : Int) = (l1.length : Int) then (laws_eqIntA2S.l0 k l0 l1 0) else (some false)) = some r := h
 clear h
 by_cases c3 : (l0.length : Int) = (l1.length : Int)
 · rw [if_pos c3] at H
   have c3b0 : ((l0.length : Int) == (l1.length : Int)) = true := beq_iff_eq.mpr c3
   have c3b1 : ((l0.length : Int) != (l1.length : Int)) = false := bne_eq_false_iff_eq.mpr c3
   have c3b2 : (l0.length == l1.length) = true := by first | simpa using c3 | (simp at c3 ⊢; omega)
   clear c3
   have H' := Aside0.mk H
   clear H
   go_enter Try.func62, Try.ntmps62
   go_wp2
   go_loopg [5] k (fun kq v5 w' => ∃ (x5_1 : Int), v5 = .int .i64 x5_1 ∧ Aside0 (laws_eqIntA2S.l0 kq l0 l1 x5_1 = some r) ∧ Aside0 (kq ≤ k) ∧ Aside0 (Below w.heap.size w w'))
   case atStart => exact ⟨(0), (by first | rfl | (simp; done) | (simp [*]; done)), H', ⟨Nat.le_refl _⟩, ⟨zB⟩⟩
   case round =>
    clear H'
    try clear c1
    try clear p2
    try clear c3
    try clear c3b0
    try clear c3b1
    try clear c3b2
    obtain ⟨x5_1, rfl, HA, HK1, HB⟩ := hrel
    cases gk with
    | zero => exact absurd HA.out (by simp [laws_eqIntA2S.l0])
    | succ k1 =>
     have H := HA.out
     clear HA
     simp only [laws_eqIntA2S.l0] at H
     by_cases c4 : x5_1 < (l0.length : Int)
     · rw [if_pos c4] at H
       have c4b0 := decide_eq_true c4
       clear c4
       by_cases c5 : 0 ≤ x5_1
       · rw [if_pos c5] at H
         have c5b0 := decide_eq_true c5
         clear c5
         by_cases c6 : x5_1 < (l1.length : Int)
         · rw [if_pos c6] at H
           have c6b0 := decide_eq_true c6
           clear c6
           replace H := Option.bind_eq_some_iff.mp H
           obtain ⟨t309, A70, H⟩ := H
           have A7 := Aside0.mk A70
           clear A70
           by_cases c8 : t309 = true
           · subst c8
             rw [if_pos rfl] at H
             have H' := Aside0.mk H
             clear H
             try go_wp2
             replace HB := zM (below_drew1 HB.out)
             have p307 : 0 ≤ (x5_1 : Int) := of_decide_eq_true zA
             have q307 : x5_1 < (l0.length : Int) := of_decide_eq_true zA
             obtain ⟨ad307, e307, hx307_0, hx307_1⟩ := at_T88 HR0.out x5_1 p307 q307
             have hw307_1 := hx307_1
             have hw307_0 := hx307_0
             cases e307
             (try replace hx307_0 := (HB.out.cell (World.block_lt_of_cell? w _ hx307_0)).trans hx307_0)
             (try replace hx307_1 := (HB.out.cell (World.block_lt_of_cell? w _ hx307_1)).trans hx307_1)
             replace p307 := eq_true p307
             replace q307 := eq_true q307
             have p308 : 0 ≤ (x5_1 : Int) := of_decide_eq_true zA
             have q308 : x5_1 < (l1.length : Int) := of_decide_eq_true zA
             obtain ⟨ad308, e308, hx308_0, hx308_1⟩ := at_T88 HR1.out x5_1 p308 q308
             have hw308_1 := hx308_1
             have hw308_0 := hx308_0
             cases e308
             (try replace hx308_0 := (HB.out.cell (World.block_lt_of_cell? w _ hx308_0)).trans hx308_0)
             (try replace hx308_1 := (HB.out.cell (World.block_lt_of_cell? w _ hx308_1)).trans hx308_1)
             replace p308 := eq_true p308
             replace q308 := eq_true q308
             refine zs (n := 10) (fun w' => w'.cell? (ad307.add ((x5_1).toNat * 2)) = some (.int .i64 ((rd_T88 l0 x5_1).f0)) ∧ w'.cell? ⟨(ad307.add ((x5_1).toNat * 2)).block, (ad307.add ((x5_1).toNat * 2)).off + 1, none⟩ = some (.int .i64 ((rd_T88 l0 x5_1).f1)) ∧ w'.cell? (ad308.add ((x5_1).toNat * 2)) = some (.int .i64 ((rd_T88 l1 x5_1).f0)) ∧ w'.cell? ⟨(ad308.add ((x5_1).toNat * 2)).block, (ad308.add ((x5_1).toNat * 2)).off + 1, none⟩ = some (.int .i64 ((rd_T88 l1 x5_1).f1))) ⟨((HB.out.cell (World.block_lt_of_cell? w _ hw307_0)).trans hw307_0), ((HB.out.cell (World.block_lt_of_cell? w _ hw307_1)).trans hw307_1), ((HB.out.cell (World.block_lt_of_cell? w _ hw308_0)).trans hw308_0), ((HB.out.cell (World.block_lt_of_cell? w _ hw308_1)).trans hw308_1)⟩ (fun hHeld => ?_); refine with_tabW laws_eqIntA2S.tab6 laws_eqIntA2S.bits6 (fun HT_ HW_ => ?_)
             generalize wr.drew = w9 at HB hx307_0 hx307_1 hx308_0 hx308_1 hHeld ⊢
             refine zp HT_ 0 17 ?_
             refine zp HT_ 1 18 ?_
             refine zp HT_ 2 19 ?_
             refine zp HT_ 4 21 ?_
             refine zp HT_ 5 22 ?_
             refine zp HT_ 6 23 ?_
             refine zt HT_ HW_ 3 20 hHeld ?_ (hy := by rintro w' ⟨s0, s1, s2, s3⟩; go_simp; with_reducible rfl)
             refine zt HT_ HW_ 7 24 hHeld ?_ (hy := by rintro w' ⟨s0, s1, s2, s3⟩; go_simp; with_reducible rfl)
             refine zg HT_ 8 25 Try.func108 #[.agg #[.int .i64 ((rd_T88 l0 x5_1).f0), .int .i64 ((rd_T88 l0 x5_1).f1)], .agg #[.int .i64 ((rd_T88 l1 x5_1).f0), .int .i64 ((rd_T88 l1 x5_1).f1)]] (fun K hK => ?_)
             with_reducible refine (laws_eqIntA2.calls ((rd_T88 l0 x5_1).f0) ((rd_T88 l0 x5_1).f1) ((rd_T88 l1 x5_1).f0) ((rd_T88 l1 x5_1).f1) true _ A7.out).mono ?_
             rintro e w10 ⟨rfl, hb⟩
             refine ⟨_, rfl, ?_⟩
             replace HB := zM (below_step zB hb)
             (try clear hb)
             (try clear hb2)
             (try clear hk)
             (try clear hi)
             refine hK.out _ _ ⟨((HB.out.cell (World.block_lt_of_cell? w _ hw307_0)).trans hw307_0), ((HB.out.cell (World.block_lt_of_cell? w _ hw307_1)).trans hw307_1), ((HB.out.cell (World.block_lt_of_cell? w _ hw308_0)).trans hw308_0), ((HB.out.cell (World.block_lt_of_cell? w _ hw308_1)).trans hw308_1)⟩ (fun hHeld => ?_)
             clear hK K
             refine zn 25 ?_
             refine zp HT_ 9 26 ?_
             refine zo HT_ ?_
             try go_wp2
             go_roundg k1
             case measure => have := HK1.out; omega
             case rel => exact ⟨(wrap64 (x5_1 + 1)), (by first | rfl | (simp; done) | (simp [*]; done)), H', ⟨by have := HK1.out; omega⟩, ⟨zB⟩⟩
           · replace c8 := Bool.eq_false_iff.mpr c8
             subst c8
             have H1 : (some false) = some r := by rw [if_neg (show ¬ (false = true) by decide)] at H; exact H
             clear H
             have H := H1
             clear H1
             obtain rfl := Option.some.inj H
             try go_wp2
             replace HB := zM (below_drew1 HB.out)
             have p307 : 0 ≤ (x5_1 : Int) := of_decide_eq_true zA
             have q307 : x5_1 < (l0.length : Int) := of_decide_eq_true zA
             obtain ⟨ad307, e307, hx307_0, hx307_1⟩ := at_T88 HR0.out x5_1 p307 q307
             have hw307_1 := hx307_1
             have hw307_0 := hx307_0
             cases e307
             (try replace hx307_0 := (HB.out.cell (World.block_lt_of_cell? w _ hx307_0)).trans hx307_0)
             (try replace hx307_1 := (HB.out.cell (World.block_lt_of_cell? w _ hx307_1)).trans hx307_1)
             replace p307 := eq_true p307
             replace q307 := eq_true q307
             have p308 : 0 ≤ (x5_1 : Int) := of_decide_eq_true zA
             have q308 : x5_1 < (l1.length : Int) := of_decide_eq_true zA
             obtain ⟨ad308, e308, hx308_0, hx308_1⟩ := at_T88 HR1.out x5_1 p308 q308
             have hw308_1 := hx308_1
             have hw308_0 := hx308_0
             cases e308
             (try replace hx308_0 := (HB.out.cell (World.block_lt_of_cell? w _ hx308_0)).trans hx308_0)
             (try replace hx308_1 := (HB.out.cell (World.block_lt_of_cell? w _ hx308_1)).trans hx308_1)
             replace p308 := eq_true p308
             replace q308 := eq_true q308
             refine zs (n := 10) (fun w' => w'.cell? (ad307.add ((x5_1).toNat * 2)) = some (.int .i64 ((rd_T88 l0 x5_1).f0)) ∧ w'.cell? ⟨(ad307.add ((x5_1).toNat * 2)).block, (ad307.add ((x5_1).toNat * 2)).off + 1, none⟩ = some (.int .i64 ((rd_T88 l0 x5_1).f1)) ∧ w'.cell? (ad308.add ((x5_1).toNat * 2)) = some (.int .i64 ((rd_T88 l1 x5_1).f0)) ∧ w'.cell? ⟨(ad308.add ((x5_1).toNat * 2)).block, (ad308.add ((x5_1).toNat * 2)).off + 1, none⟩ = some (.int .i64 ((rd_T88 l1 x5_1).f1))) ⟨((HB.out.cell (World.block_lt_of_cell? w _ hw307_0)).trans hw307_0), ((HB.out.cell (World.block_lt_of_cell? w _ hw307_1)).trans hw307_1), ((HB.out.cell (World.block_lt_of_cell? w _ hw308_0)).trans hw308_0), ((HB.out.cell (World.block_lt_of_cell? w _ hw308_1)).trans hw308_1)⟩ (fun hHeld => ?_); refine with_tabW laws_eqIntA2S.tab6 laws_eqIntA2S.bits6 (fun HT_ HW_ => ?_)
             generalize wr.drew = w11 at HB hx307_0 hx307_1 hx308_0 hx308_1 hHeld ⊢
             refine zp HT_ 0 17 ?_
             refine zp HT_ 1 18 ?_
             refine zp HT_ 2 19 ?_
             refine zp HT_ 4 21 ?_
             refine zp HT_ 5 22 ?_
             refine zp HT_ 6 23 ?_
             refine zt HT_ HW_ 3 20 hHeld ?_ (hy := by rintro w' ⟨s0, s1, s2, s3⟩; go_simp; with_reducible rfl)
             refine zt HT_ HW_ 7 24 hHeld ?_ (hy := by rintro w' ⟨s0, s1, s2, s3⟩; go_simp; with_reducible rfl)
             refine zg HT_ 8 25 Try.func108 #[.agg #[.int .i64 ((rd_T88 l0 x5_1).f0), .int .i64 ((rd_T88 l0 x5_1).f1)], .agg #[.int .i64 ((rd_T88 l1 x5_1).f0), .int .i64 ((rd_T88 l1 x5_1).f1)]] (fun K hK => ?_)
             with_reducible refine (laws_eqIntA2.calls ((rd_T88 l0 x5_1).f0) ((rd_T88 l0 x5_1).f1) ((rd_T88 l1 x5_1).f0) ((rd_T88 l1 x5_1).f1) false _ A7.out).mono ?_
             rintro e w12 ⟨rfl, hb⟩
             refine ⟨_, rfl, ?_⟩
             replace HB := zM (below_step zB hb)
             (try clear hb)
             (try clear hb2)
             (try clear hk)
             (try clear hi)
             refine hK.out _ _ ⟨((HB.out.cell (World.block_lt_of_cell? w _ hw307_0)).trans hw307_0), ((HB.out.cell (World.block_lt_of_cell? w _ hw307_1)).trans hw307_1), ((HB.out.cell (World.block_lt_of_cell? w _ hw308_0)).trans hw308_0), ((HB.out.cell (World.block_lt_of_cell? w _ hw308_1)).trans hw308_1)⟩ (fun hHeld => ?_)
             clear hK K
             refine zn 25 ?_
             refine zp HT_ 9 26 ?_
             refine zo HT_ ?_
             try go_wp2
             go_ret
             exact ⟨by first | rfl | (simp [errW_none, errW_some] <;> rfl) | (simp [*, errW_none, errW_some] <;> rfl), zB⟩
         · rw [if_neg c6] at H
           exact absurd H (by simp)
       · rw [if_neg c5] at H
         exact absurd H (by simp)
     · rw [if_neg c4] at H
       have c4b0 : decide (x5_1 < (l0.length : Int)) = false := decide_eq_false c4
       clear c4
       obtain rfl := Option.some.inj H
       go_wp2
       go_ret
       exact ⟨by first | rfl | (simp [errW_none, errW_some] <;> rfl) | (simp [*, errW_none, errW_some] <;> rfl), zB⟩
 · rw [if_neg c3] at H
   have c3b0 : ((l0.length : Int) == (l1.length : Int)) = false := beq_eq_false_iff_ne.mpr c3
   have c3b1 : ((l0.length : Int) != (l1.length : Int)) = true := bne_iff_ne.mpr c3
   have c3b2 : (l0.length == l1.length) = false := by first | simpa using c3 | (simp at c3 ⊢; omega)
   obtain rfl := Option.some.inj H
   go_enter Try.func62, Try.ntmps62
   go_wp2
   go_ret
   exact ⟨by first | rfl | (simp [errW_none, errW_some] <;> rfl) | (simp [*, errW_none, errW_some] <;> rfl), zB⟩

/-! ### laws_eqGraph: function 20 -/
def laws_eqGraph.f (k : Nat) (a0_0 : Int) (l0_1 : List (S88)) (a1_0 : Int) (l1_1 : List (S88)) : Option (Bool) := if a0_0 = a1_0 then ((laws_eqIntA2S.f k l0_1 l1_1).bind fun t312 => (if t312 = true then (some true) else (some false))) else (some false)
set_option maxHeartbeats 8000000 in
set_option maxRecDepth 100000 in
theorem laws_eqGraph.calls (k : Nat) (a0_0 : Int) (A0_1 : Option Addr) (c0_1 : Nat) (l0_1 : List (S88)) (a1_0 : Int) (A1_1 : Option Addr) (c1_1 : Nat) (l1_1 : List (S88)) (r : Bool) (w : World) (hr0_1 : Kd.C k88 w A0_1 l0_1.length l0_1) (hc0_1 : l0_1.length ≤ c0_1) (hr1_1 : Kd.C k88 w A1_1 l1_1.length l1_1) (hc1_1 : l1_1.length ≤ c1_1) (h : laws_eqGraph.f k a0_0 l0_1 a1_0 l1_1 = some r) :
 Calls Try.prog 20 #[.agg #[.int .i64 a0_0, .slice A0_1 l0_1.length c0_1], .agg #[.int .i64 a1_0, .slice A1_1 l1_1.length c1_1]] w fun e w' => e = .returned (.bool r) ∧ Below w.heap.size w w' := by
 have hu29 := Try.underlying29
 have HR0_1 := Aside0.mk hr0_1
 have HC0_1 := Aside0.mk hc0_1
 clear hr0_1 hc0_1
 have HR1_1 := Aside0.mk hr1_1
 have HC1_1 := Aside0.mk hc1_1
 clear hr1_1 hc1_1
 have HB := zM (Below.refl w.heap.size w)
 have H : (if a0_0 = a1_0 then ((laws_eqIntA2S.f k l0_1 l1_1).bind fun t312 => (if t312 = true then (some true) else (some false))) else (some false)) = some r := h
 clear h
 by_cases c3 : a0_0 = a1_0
 · rw [if_pos c3] at H
   have c3b0 : (a0_0 == a1_0) = true := beq_iff_eq.mpr c3
   have c3b1 : (a0_0 != a1_0) = false := bne_eq_false_iff_eq.mpr c3
   clear c3
   replace H := Option.bind_eq_some_iff.mp H
   obtain ⟨t312, A40, H⟩ := H
   have A4 := Aside0.mk A40
   clear A40
   by_cases c5 : t312 = true
   · subst c5
     rw [if_pos rfl] at H
     obtain rfl := Option.some.inj H
     go_enter Try.func20, Try.ntmps20
     go_wp2_with (first | ((with_reducible refine gate_dst (N := 2) rfl ?_); refine zb (w := w) 2 #[.int .i64 a0_0, .slice A0_1 l0_1.length c0_1] 29 zB ?_; clear HB; intro gb310 w6 HB BK310 GW310; have GE310 := GW310) | ((with_reducible refine gate_dst (N := 3) rfl ?_); refine ze 3 #[.int .i64 a1_0, .slice A1_1 l1_1.length c1_1] 29 ?_; intro gb311 hg w7 hbox hb; have BK311 := zM (hbox); have GW311 := zM ((by rw [hg]; exact (below_size zB) : w.heap.size ≤ gb311)); have GE311 := zM ((by rw [hg]; exact (below_size zB) : w.heap.size ≤ gb311)); replace HB := zM (below_step zB hb); have NB310_311 := zM ((by rw [hg]; exact Nat.ne_of_lt (blk_lt (g := gb310) (o := .cells #[.int .i64 a0_0, .slice A0_1 l0_1.length c0_1] 29 (0, 0)) (zK BK310.out)) : gb310 ≠ gb311)); have NB311_310 := zM ((by rw [hg]; exact Nat.ne_of_gt (blk_lt (g := gb310) (o := .cells #[.int .i64 a0_0, .slice A0_1 l0_1.length c0_1] 29 (0, 0)) (zK BK310.out)) : gb311 ≠ gb310)); replace BK310 := zM (blk_below (g := gb310) (o := .cells #[.int .i64 a0_0, .slice A0_1 l0_1.length c0_1] 29 (0, 0)) (zK BK310.out) hb); clear hb hbox hg; have hnb8 := NB310_311.out; have hnc8 := NB311_310.out; have hcz9_0 := zy BK310 0; have hcz9_1 := zy BK310 1; have hfz9_0 := blk_frozen BK310.out 0; have hfz9_1 := blk_frozen BK310.out 1; have hcz10_0 := zy BK311 0; have hcz10_1 := zy BK311 1; have hfz10_0 := blk_frozen BK311.out 0; have hfz10_1 := blk_frozen BK311.out 1) | ((with_reducible refine gate_callee (f := 62) rfl ?_); refine zc 14 Try.func62 #[.slice A0_1 l0_1.length c0_1, .slice A1_1 l1_1.length c1_1] ?_; (with_reducible refine (laws_eqIntA2S.calls k _ _ l0_1 _ _ l1_1 true _ ?side1 ?side2 ?side3 ?side4 A4.out).mono ?_); (case side1 => exact zC (Kd.C_below HR0_1.out HB.out)); (case side2 => exact HC0_1.out); (case side3 => exact zC (Kd.C_below HR1_1.out HB.out)); (case side4 => exact HC1_1.out); rintro e w11 ⟨rfl, hb⟩; refine ⟨_, rfl, ?_⟩; replace BK310 := zM (blk_below (g := gb310) (o := .cells #[.int .i64 a0_0, .slice A0_1 l0_1.length c0_1] 29 (0, 0)) (zK BK310.out) hb); replace BK311 := zM (blk_below (g := gb311) (o := .cells #[.int .i64 a1_0, .slice A1_1 l1_1.length c1_1] 29 (0, 0)) (zK BK311.out) hb); replace HB := zM (below_step zB hb); (try clear hb); (try clear hb2); (try clear hk); (try clear hi)))
     go_ret
     exact ⟨by first | rfl | (simp [errW_none, errW_some] <;> rfl) | (simp [*, errW_none, errW_some] <;> rfl), zB⟩
   · replace c5 := Bool.eq_false_iff.mpr c5
     subst c5
     have H1 : (some false) = some r := by rw [if_neg (show ¬ (false = true) by decide)] at H; exact H
     clear H
     have H := H1
     clear H1
     obtain rfl := Option.some.inj H
     go_enter Try.func20, Try.ntmps20
     go_wp2_with (first | ((with_reducible refine gate_dst (N := 2) rfl ?_); refine zb (w := w) 2 #[.int .i64 a0_0, .slice A0_1 l0_1.length c0_1] 29 zB ?_; clear HB; intro gb310 w12 HB BK310 GW310; have GE310 := GW310) | ((with_reducible refine gate_dst (N := 3) rfl ?_); refine ze 3 #[.int .i64 a1_0, .slice A1_1 l1_1.length c1_1] 29 ?_; intro gb311 hg w13 hbox hb; have BK311 := zM (hbox); have GW311 := zM ((by rw [hg]; exact (below_size zB) : w.heap.size ≤ gb311)); have GE311 := zM ((by rw [hg]; exact (below_size zB) : w.heap.size ≤ gb311)); replace HB := zM (below_step zB hb); have NB310_311 := zM ((by rw [hg]; exact Nat.ne_of_lt (blk_lt (g := gb310) (o := .cells #[.int .i64 a0_0, .slice A0_1 l0_1.length c0_1] 29 (0, 0)) (zK BK310.out)) : gb310 ≠ gb311)); have NB311_310 := zM ((by rw [hg]; exact Nat.ne_of_gt (blk_lt (g := gb310) (o := .cells #[.int .i64 a0_0, .slice A0_1 l0_1.length c0_1] 29 (0, 0)) (zK BK310.out)) : gb311 ≠ gb310)); replace BK310 := zM (blk_below (g := gb310) (o := .cells #[.int .i64 a0_0, .slice A0_1 l0_1.length c0_1] 29 (0, 0)) (zK BK310.out) hb); clear hb hbox hg; have hnb14 := NB310_311.out; have hnc14 := NB311_310.out; have hcz15_0 := zy BK310 0; have hcz15_1 := zy BK310 1; have hfz15_0 := blk_frozen BK310.out 0; have hfz15_1 := blk_frozen BK310.out 1; have hcz16_0 := zy BK311 0; have hcz16_1 := zy BK311 1; have hfz16_0 := blk_frozen BK311.out 0; have hfz16_1 := blk_frozen BK311.out 1) | ((with_reducible refine gate_callee (f := 62) rfl ?_); refine zc 14 Try.func62 #[.slice A0_1 l0_1.length c0_1, .slice A1_1 l1_1.length c1_1] ?_; (with_reducible refine (laws_eqIntA2S.calls k _ _ l0_1 _ _ l1_1 false _ ?side1 ?side2 ?side3 ?side4 A4.out).mono ?_); (case side1 => exact zC (Kd.C_below HR0_1.out HB.out)); (case side2 => exact HC0_1.out); (case side3 => exact zC (Kd.C_below HR1_1.out HB.out)); (case side4 => exact HC1_1.out); rintro e w17 ⟨rfl, hb⟩; refine ⟨_, rfl, ?_⟩; replace BK310 := zM (blk_below (g := gb310) (o := .cells #[.int .i64 a0_0, .slice A0_1 l0_1.length c0_1] 29 (0, 0)) (zK BK310.out) hb); replace BK311 := zM (blk_below (g := gb311) (o := .cells #[.int .i64 a1_0, .slice A1_1 l1_1.length c1_1] 29 (0, 0)) (zK BK311.out) hb); replace HB := zM (below_step zB hb); (try clear hb); (try clear hb2); (try clear hk); (try clear hi)))
     go_ret
     exact ⟨by first | rfl | (simp [errW_none, errW_some] <;> rfl) | (simp [*, errW_none, errW_some] <;> rfl), zB⟩
 · rw [if_neg c3] at H
   have c3b0 : (a0_0 == a1_0) = false := beq_eq_false_iff_ne.mpr c3
   have c3b1 : (a0_0 != a1_0) = true := bne_iff_ne.mpr c3
   obtain rfl := Option.some.inj H
   go_enter Try.func20, Try.ntmps20
   go_wp2_with (first | ((with_reducible refine gate_dst (N := 2) rfl ?_); refine zb (w := w) 2 #[.int .i64 a0_0, .slice A0_1 l0_1.length c0_1] 29 zB ?_; clear HB; intro gb310 w18 HB BK310 GW310; have GE310 := GW310) | ((with_reducible refine gate_dst (N := 3) rfl ?_); refine ze 3 #[.int .i64 a1_0, .slice A1_1 l1_1.length c1_1] 29 ?_; intro gb311 hg w19 hbox hb; have BK311 := zM (hbox); have GW311 := zM ((by rw [hg]; exact (below_size zB) : w.heap.size ≤ gb311)); have GE311 := zM ((by rw [hg]; exact (below_size zB) : w.heap.size ≤ gb311)); replace HB := zM (below_step zB hb); have NB310_311 := zM ((by rw [hg]; exact Nat.ne_of_lt (blk_lt (g := gb310) (o := .cells #[.int .i64 a0_0, .slice A0_1 l0_1.length c0_1] 29 (0, 0)) (zK BK310.out)) : gb310 ≠ gb311)); have NB311_310 := zM ((by rw [hg]; exact Nat.ne_of_gt (blk_lt (g := gb310) (o := .cells #[.int .i64 a0_0, .slice A0_1 l0_1.length c0_1] 29 (0, 0)) (zK BK310.out)) : gb311 ≠ gb310)); replace BK310 := zM (blk_below (g := gb310) (o := .cells #[.int .i64 a0_0, .slice A0_1 l0_1.length c0_1] 29 (0, 0)) (zK BK310.out) hb); clear hb hbox hg; have hnb20 := NB310_311.out; have hnc20 := NB311_310.out; have hcz21_0 := zy BK310 0; have hcz21_1 := zy BK310 1; have hfz21_0 := blk_frozen BK310.out 0; have hfz21_1 := blk_frozen BK310.out 1; have hcz22_0 := zy BK311 0; have hcz22_1 := zy BK311 1; have hfz22_0 := blk_frozen BK311.out 0; have hfz22_1 := blk_frozen BK311.out 1))
   go_ret
   exact ⟨by first | rfl | (simp [errW_none, errW_some] <;> rfl) | (simp [*, errW_none, errW_some] <;> rfl), zB⟩

/-! ### laws_eqIntS: function 21 -/
def laws_eqIntS.l0 : Nat → List Int → List Int → Int → Option (Bool)
 | 0, _, _, _ => none
 | k + 1, x0, x1, x5 => if x5 < (x0.length : Int) then (if 0 ≤ x5 then (if x5 < (x1.length : Int) then (if (rd x0 x5) = (rd x1 x5) then (laws_eqIntS.l0 k x0 x1 (wrap64 (x5 + 1))) else (some false)) else (none)) else (none)) else (some true)
def laws_eqIntS.f (k : Nat) (l0 : List Int) (l1 : List Int) : Option (Bool) := if (l0.length : Int) = (l1.length : Int) then (laws_eqIntS.l0 k l0 l1 0) else (some false)
set_option maxHeartbeats 8000000 in
set_option maxRecDepth 100000 in
theorem laws_eqIntS.calls (k : Nat) (A0 : Option Addr) (c0 : Nat) (l0 : List Int) (A1 : Option Addr) (c1 : Nat) (l1 : List Int) (r : Bool) (w : World) (hr0 : Kd.C (Kd.int .i64) w A0 l0.length l0) (hc0 : l0.length ≤ c0) (hr1 : Kd.C (Kd.int .i64) w A1 l1.length l1) (hc1 : l1.length ≤ c1) (h : laws_eqIntS.f k l0 l1 = some r) :
 Calls Try.prog 21 #[.slice A0 l0.length c0, .slice A1 l1.length c1] w fun e w' => e = .returned (.bool r) ∧ Drawn0 w w' := by
 have HR0 := Aside0.mk hr0
 have HC0 := Aside0.mk hc0
 clear hr0 hc0
 have HR1 := Aside0.mk hr1
 have HC1 := Aside0.mk hc1
 clear hr1 hc1
 have H : (if (l0.length : Int) = (l1.length : Int) then (laws_eqIntS.l0 k l0 l1 0) else (some false)) = some r := h
 clear h
 by_cases c3 : (l0.length : Int) = (l1.length : Int)
 · rw [if_pos c3] at H
   have c3b0 : ((l0.length : Int) == (l1.length : Int)) = true := beq_iff_eq.mpr c3
   have c3b1 : ((l0.length : Int) != (l1.length : Int)) = false := bne_eq_false_iff_eq.mpr c3
   have c3b2 : (l0.length == l1.length) = true := by first | simpa using c3 | (simp at c3 ⊢; omega)
   clear c3
   have H' := Aside0.mk H
   clear H
   go_enter Try.func21, Try.ntmps21
   go_wp2
   repeat (go_quiet (fail); try go_wp2)
   go_loopg [5] k (fun kq v5 w' => ∃ (x5_1 : Int), v5 = .int .i64 x5_1 ∧ Aside0 (laws_eqIntS.l0 kq l0 l1 x5_1 = some r) ∧ Aside0 (kq ≤ k) ∧ Drawn0 w w')
   case atStart => exact ⟨(0), (by first | rfl | (simp; done) | (simp [*]; done)), H', ⟨Nat.le_refl _⟩, by repeat (first | exact Drawn0.refl _ | apply Drawn0.step)⟩
   case round =>
    clear H'
    try clear c1
    try clear c2
    try clear p2
    try clear c3
    try clear c3b0
    try clear c3b1
    try clear c3b2
    obtain ⟨x5_1, rfl, HA, HK1, ⟨m1, rfl⟩⟩ := hrel
    cases gk with
    | zero => exact absurd HA.out (by simp [laws_eqIntS.l0])
    | succ k1 =>
     have H := HA.out
     clear HA
     simp only [laws_eqIntS.l0] at H
     by_cases c4 : x5_1 < (l0.length : Int)
     · rw [if_pos c4] at H
       have c4b0 := decide_eq_true c4
       clear c4
       by_cases c5 : 0 ≤ x5_1
       · rw [if_pos c5] at H
         have c5b0 := decide_eq_true c5
         clear c5
         by_cases c6 : x5_1 < (l1.length : Int)
         · rw [if_pos c6] at H
           have c6b0 := decide_eq_true c6
           clear c6
           by_cases c7 : (rd l0 x5_1) = (rd l1 x5_1)
           · rw [if_pos c7] at H
             have c7b0 : ((rd l0 x5_1) == (rd l1 x5_1)) = true := beq_iff_eq.mpr c7
             have c7b1 : ((rd l0 x5_1) != (rd l1 x5_1)) = false := bne_eq_false_iff_eq.mpr c7
             clear c7
             have H' := Aside0.mk H
             clear H
             have p313 : 0 ≤ (x5_1 : Int) := of_decide_eq_true zA
             have q313 : x5_1 < (l0.length : Int) := of_decide_eq_true zA
             obtain ⟨ad313, e313, hx313_0⟩ := Kd.at_int HR0.out x5_1 p313 q313
             cases e313
             replace p313 := eq_true p313
             replace q313 := eq_true q313
             have p314 : 0 ≤ (x5_1 : Int) := of_decide_eq_true zA
             have q314 : x5_1 < (l1.length : Int) := of_decide_eq_true zA
             obtain ⟨ad314, e314, hx314_0⟩ := Kd.at_int HR1.out x5_1 p314 q314
             cases e314
             replace p314 := eq_true p314
             replace q314 := eq_true q314
             go_wp2
             repeat (go_quiet (fail); try go_wp2)
             go_roundg k1
             case measure => have := HK1.out; omega
             case rel => exact ⟨(wrap64 (x5_1 + 1)), (by first | rfl | (simp; done) | (simp [*]; done)), H', ⟨by have := HK1.out; omega⟩, by repeat (first | exact Drawn0.refl _ | apply Drawn0.step)⟩
           · rw [if_neg c7] at H
             have c7b0 : ((rd l0 x5_1) == (rd l1 x5_1)) = false := beq_eq_false_iff_ne.mpr c7
             have c7b1 : ((rd l0 x5_1) != (rd l1 x5_1)) = true := bne_iff_ne.mpr c7
             obtain rfl := Option.some.inj H
             have p313 : 0 ≤ (x5_1 : Int) := of_decide_eq_true zA
             have q313 : x5_1 < (l0.length : Int) := of_decide_eq_true zA
             obtain ⟨ad313, e313, hx313_0⟩ := Kd.at_int HR0.out x5_1 p313 q313
             cases e313
             replace p313 := eq_true p313
             replace q313 := eq_true q313
             have p314 : 0 ≤ (x5_1 : Int) := of_decide_eq_true zA
             have q314 : x5_1 < (l1.length : Int) := of_decide_eq_true zA
             obtain ⟨ad314, e314, hx314_0⟩ := Kd.at_int HR1.out x5_1 p314 q314
             cases e314
             replace p314 := eq_true p314
             replace q314 := eq_true q314
             go_wp2
             repeat (go_quiet (fail); try go_wp2)
             go_ret
             exact ⟨by first | rfl | (simp; done) | (simp [*]; done), by repeat (first | exact Drawn0.refl _ | apply Drawn0.step)⟩
         · rw [if_neg c6] at H
           exact absurd H (by simp)
       · rw [if_neg c5] at H
         exact absurd H (by simp)
     · rw [if_neg c4] at H
       have c4b0 : decide (x5_1 < (l0.length : Int)) = false := decide_eq_false c4
       clear c4
       obtain rfl := Option.some.inj H
       go_wp2
       repeat (go_quiet (fail); try go_wp2)
       go_ret
       exact ⟨by first | rfl | (simp; done) | (simp [*]; done), by repeat (first | exact Drawn0.refl _ | apply Drawn0.step)⟩
 · rw [if_neg c3] at H
   have c3b0 : ((l0.length : Int) == (l1.length : Int)) = false := beq_eq_false_iff_ne.mpr c3
   have c3b1 : ((l0.length : Int) != (l1.length : Int)) = true := bne_iff_ne.mpr c3
   have c3b2 : (l0.length == l1.length) = false := by first | simpa using c3 | (simp at c3 ⊢; omega)
   obtain rfl := Option.some.inj H
   go_enter Try.func21, Try.ntmps21
   go_wp2
   repeat (go_quiet (fail); try go_wp2)
   go_ret
   exact ⟨by first | rfl | (simp; done) | (simp [*]; done), by repeat (first | exact Drawn0.refl _ | apply Drawn0.step)⟩

end Go.Proofs.Ytnlmijnbfdhdkaa.P
namespace Go.Proofs.Ytnlmijnbfdhdkaa.P
open Go.RowKit Go.Proofs.YtnlmijnbfdhdkaaW.PrintWords Go.Proofs.YtnlmijnbfdhdkaaW.PrintLast Go.Proofs.YtnlmijnbfdhdkaaW.PrintMore
set_option linter.unusedVariables false
section
variable {α : Type} {d : Kd α} {e base : Nat} {ok S : Nat → Prop} {w W W1 : World} {v : Value} {xs : List α} {g : Nat} {o : Obj}
theorem uR (hB : Below w.heap.size w W) (h : d.R e W1 W.heap.size (fun _ => True) v xs) : Aside0 (d.R e W1 w.heap.size (fun k => W.heap.size ≤ k ∧ k < W1.heap.size) v xs) :=
  ⟨Kd.R_mono (Kd.R_lower (Kd.R_bound h) (below_size hB)) (fun k hk => ⟨hk.2.1, hk.2.2.1⟩)⟩
theorem uRb (h : Aside0 (d.R e W base ok v xs)) (hb : Below W.heap.size W W1) : Aside0 (d.R e W1 base ok v xs) := ⟨Kd.R_below h.out hb⟩
theorem uKb (h : Aside0 (W.heap[g]? = some o)) (hb : Below W.heap.size W W1) : Aside0 (W1.heap[g]? = some o) := ⟨blk_below h.out hb⟩
theorem uRk (h : Aside0 (d.R e W base ok v xs)) (hk : Kept W W1 S) (hne : ∀ k, ok k → ¬ S k) : Aside0 (d.R e W1 base ok v xs) := ⟨Kd.R_kept h.out hk hne⟩
theorem uKk (h : Aside0 (W.heap[g]? = some o)) (hk : Kept W W1 S) (hne : ¬ S g) : Aside0 (W1.heap[g]? = some o) := ⟨blk_kept h.out hk hne⟩
/-- A struct of two cells is stored into the call's own block. -/
theorem uBox {P : Program} {f : FuncId} {args : Array Value} {Q : Ending → World → Prop} {t : TypeId} {x y a b : Value} (hb : Aside0 (W.heap[g]? = some (.cells #[x, y] t (0, 0)))) (hB : Aside0 (Below w.heap.size w W)) (hg : w.heap.size ≤ g)
    (h : ∀ W', Aside0 (W'.heap[g]? = some (.cells #[a, b] t (0, 0))) → Kept W W' (fun k => k = g) → Aside0 (Below w.heap.size w W') → Calls P f args W' Q) : Calls P f args ((W.setCell ⟨g, 0, none⟩ a).setCell ⟨g, 1, none⟩ b) Q :=
  h _ ⟨blk_put (cs := #[a, y]) (blk_put (cs := #[x, y]) hb.out 0 a rfl) 1 b rfl⟩ (Kept.setCell (Kept.setCell (Kept.refl W (fun k => k = g)) (p := ⟨g, 0, none⟩) (.inl rfl) a) (p := ⟨g, 1, none⟩) (.inl rfl) b) ⟨below_set (below_set hB.out hg) hg⟩
end
end Go.Proofs.Ytnlmijnbfdhdkaa.P
namespace Go.Proofs.Ytnlmijnbfdhdkaa.P
open Go.RowKit Go.Proofs.YtnlmijnbfdhdkaaW.PrintWords Go.Proofs.YtnlmijnbfdhdkaaW.PrintLast Go.Proofs.YtnlmijnbfdhdkaaW.PrintMore
set_option linter.unusedVariables false
set_option linter.unusedSimpArgs false
set_option maxRecDepth 100000 in
set_option maxHeartbeats 4000000 in
theorem laws_FnExactIsTightSet.exit0 (a0_0 : Int) (A0_1 : Option Addr) (c0_1 : Nat) (l0_1 : List (S88)) (a1 : Int) (A2 : Option Addr) (c2 : Nat) (l2 : List Int) (w : World) (hr0_1 : Kd.C k88 w A0_1 l0_1.length l0_1) (hc0_1 : l0_1.length ≤ c0_1) (hr2 : Kd.C (Kd.int .i64) w A2 l2.length l2) (hc2 : l2.length ≤ c2) (c0 : 1048576 < (l2.length : Int)) :
    Calls Try.prog 3 #[.agg #[.int .i64 a0_0, .slice A0_1 l0_1.length c0_1], .int .i64 a1, .slice A2 l2.length c2] w fun e w' => e = .returned (.bool true) ∧ Below w.heap.size w w' := by
  have hu24 := Try.underlying24
  have hu29 := Try.underlying29
  have HR0_1 := zM hr0_1; clear hr0_1
  have HC0_1 := zM hc0_1; clear hc0_1
  have HR2 := zM hr2; clear hr2
  have HC2 := zM hc2; clear hc2
  have HB := zM (Below.refl w.heap.size w)
  have c0b : decide (1048576 < (l2.length : Int)) = true := decide_eq_true c0
  have c0c : decide (1048576 < l2.length) = true := decide_eq_true (by omega)
  clear c0
  go_enter Try.func3, Try.ntmps3
  go_wp2_with (first
    | ((with_reducible refine gate_dst (N := 3) rfl ?_); refine ze 3 #[.int .i64 a0_0, .slice A0_1 l0_1.length c0_1] 24 ?_; intro gb3 hg w1 hbox hb; have HG3 := zM hg; have HW3 := zM (show w.heap.size ≤ gb3 by rw [hg]; exact below_size HB.out); have HL3 := zM (blk_lt hbox); clear hg; have HS1 := zM hb.size; replace HB := zM (below_step HB.out hb); have BK3 := zM hbox; clear hbox hb; have hc3_0 := zy BK3 0; have hf3_0 := blk_frozen BK3.out 0; have hc3_1 := zy BK3 1; have hf3_1 := blk_frozen BK3.out 1))
  go_ret
  exact ⟨rfl, HB.out⟩
set_option maxRecDepth 100000 in
set_option maxHeartbeats 4000000 in
theorem laws_FnExactIsTightSet.exit1 (a0_0 : Int) (A0_1 : Option Addr) (c0_1 : Nat) (l0_1 : List (S88)) (a1 : Int) (A2 : Option Addr) (c2 : Nat) (l2 : List Int) (t0 : Int) (w : World) (hr0_1 : Kd.C k88 w A0_1 l0_1.length l0_1) (hc0_1 : l0_1.length ≤ c0_1) (hr2 : Kd.C (Kd.int .i64) w A2 l2.length l2) (hc2 : l2.length ≤ c2) (c0 : ¬ (1048576 < (l2.length : Int))) (c1 : t0 < 0) (h0 : laws_szGraph.f a0_0 l0_1 1048576 = some t0) :
    Calls Try.prog 3 #[.agg #[.int .i64 a0_0, .slice A0_1 l0_1.length c0_1], .int .i64 a1, .slice A2 l2.length c2] w fun e w' => e = .returned (.bool true) ∧ Below w.heap.size w w' := by
  have hu24 := Try.underlying24
  have hu29 := Try.underlying29
  have HR0_1 := zM hr0_1; clear hr0_1
  have HC0_1 := zM hc0_1; clear hc0_1
  have HR2 := zM hr2; clear hr2
  have HC2 := zM hc2; clear hc2
  have HB := zM (Below.refl w.heap.size w)
  have H0 := zM h0; clear h0
  have c0b : decide (1048576 < (l2.length : Int)) = false := decide_eq_false c0
  have c0c : decide (1048576 < l2.length) = false := decide_eq_false (by omega)
  clear c0
  have c1b : decide (t0 < 0) = true := decide_eq_true c1
  clear c1
  go_enter Try.func3, Try.ntmps3
  go_wp2_with (first
    | ((with_reducible refine gate_dst (N := 3) rfl ?_); refine ze 3 #[.int .i64 a0_0, .slice A0_1 l0_1.length c0_1] 24 ?_; intro gb3 hg w1 hbox hb; have HG3 := zM hg; have HW3 := zM (show w.heap.size ≤ gb3 by rw [hg]; exact below_size HB.out); have HL3 := zM (blk_lt hbox); clear hg; have HS1 := zM hb.size; replace HB := zM (below_step HB.out hb); have BK3 := zM hbox; clear hbox hb; have hc3_0 := zy BK3 0; have hf3_0 := blk_frozen BK3.out 0; have hc3_1 := zy BK3 1; have hf3_1 := blk_frozen BK3.out 1)
    | (have hst_ : Aside0 (Below w.heap.size w w1) := HB; clear hst_; go_at_call 15; refine (laws_szGraph.calls a0_0 _ _ l0_1 1048576 t0 _ ?side1 ?side2 H0.out).mono ?_; (case side1 => exact zC (Kd.C_below HR0_1.out HB.out)); (case side2 => exact HC0_1.out); rintro e w2 ⟨rfl, hb⟩; replace BK3 := uKb BK3 hb; have HS2 := zM hb.size; replace HB := zM (below_step HB.out hb); clear hb; replace hc3_0 := zy BK3 0; replace hf3_0 := blk_frozen BK3.out 0; replace hc3_1 := zy BK3 1; replace hf3_1 := blk_frozen BK3.out 1))
  go_ret
  exact ⟨rfl, HB.out⟩
set_option maxRecDepth 100000 in
set_option maxHeartbeats 4000000 in
theorem laws_FnExactIsTightSet.walk (a0_0 : Int) (A0_1 : Option Addr) (c0_1 : Nat) (l0_1 : List (S88)) (a1 : Int) (A2 : Option Addr) (c2 : Nat) (l2 : List Int) (k1 k2 k3 k4 k5 k6 : Nat) (t0 : Int) (q0 : Bool) (q1 : Bool) (w : World) (hr0_1 : Kd.C k88 w A0_1 l0_1.length l0_1) (hc0_1 : l0_1.length ≤ c0_1) (hr2 : Kd.C (Kd.int .i64) w A2 l2.length l2) (hc2 : l2.length ≤ c2) (c0 : ¬ (1048576 < (l2.length : Int))) (c1 : ¬ (t0 < 0)) (h0 : laws_szGraph.f a0_0 l0_1 1048576 = some t0) (h1 : laws_toGraph.f k1 a0_0 l0_1 = some (a0_0, l0_1)) (h2 : laws_toIntS.f k2 l2 = some l2) (h3 : spec_IsTightSet.f k3 a0_0 l0_1 a1 l2 = some (q0, q1)) (h4 : impl_IsTightSet.f k4 a0_0 l0_1 a1 l2 = some (q0, q1)) (h5 : laws_eqGraph.f k5 a0_0 l0_1 a0_0 l0_1 = some true) (h6 : laws_eqIntS.f k6 l2 l2 = some true) :
    Calls Try.prog 3 #[.agg #[.int .i64 a0_0, .slice A0_1 l0_1.length c0_1], .int .i64 a1, .slice A2 l2.length c2] w fun e w' => e = .returned (.bool true) ∧ Below w.heap.size w w' := by
  have hu24 := Try.underlying24
  have hu29 := Try.underlying29
  have HR0_1 := zM hr0_1; clear hr0_1
  have HC0_1 := zM hc0_1; clear hc0_1
  have HR2 := zM hr2; clear hr2
  have HC2 := zM hc2; clear hc2
  have HB := zM (Below.refl w.heap.size w)
  have H0 := zM h0; clear h0
  have H1 := zM h1; clear h1
  have H2 := zM h2; clear h2
  have H3 := zM h3; clear h3
  have H4 := zM h4; clear h4
  have H5 := zM h5; clear h5
  have H6 := zM h6; clear h6
  have c0b : decide (1048576 < (l2.length : Int)) = false := decide_eq_false c0
  have c0c : decide (1048576 < l2.length) = false := decide_eq_false (by omega)
  clear c0
  have c1b : decide (t0 < 0) = false := decide_eq_false c1
  clear c1
  go_enter Try.func3, Try.ntmps3
  go_upto_region 13 with (first
    | ((with_reducible refine gate_dst (N := 3) rfl ?_); refine ze 3 #[.int .i64 a0_0, .slice A0_1 l0_1.length c0_1] 24 ?_; intro gb3 hg w1 hbox hb; have HG3 := zM hg; have HW3 := zM (show w.heap.size ≤ gb3 by rw [hg]; exact below_size HB.out); have HL3 := zM (blk_lt hbox); clear hg; have HS1 := zM hb.size; replace HB := zM (below_step HB.out hb); have BK3 := zM hbox; clear hbox hb; have hc3_0 := zy BK3 0; have hf3_0 := blk_frozen BK3.out 0; have hc3_1 := zy BK3 1; have hf3_1 := blk_frozen BK3.out 1)
    | (have hst_ : Aside0 (Below w.heap.size w w1) := HB; clear hst_; go_at_call 15; refine (laws_szGraph.calls a0_0 _ _ l0_1 1048576 t0 _ ?side1 ?side2 H0.out).mono ?_; (case side1 => exact zC (Kd.C_below HR0_1.out HB.out)); (case side2 => exact HC0_1.out); rintro e w2 ⟨rfl, hb⟩; replace BK3 := uKb BK3 hb; have HS2 := zM hb.size; replace HB := zM (below_step HB.out hb); clear hb; replace hc3_0 := zy BK3 0; replace hf3_0 := blk_frozen BK3.out 0; replace hc3_1 := zy BK3 1; replace hf3_1 := blk_frozen BK3.out 1)
    | (have hst_ : Aside0 (Below w.heap.size w w2) := HB; clear hst_; go_at_call 17; refine (laws_toGraph.calls k1 a0_0 _ _ l0_1 a0_0 l0_1 _ ?side1 ?side2 H1.out).mono ?_; (case side1 => exact zC (Kd.C_below HR0_1.out HB.out)); (case side2 => exact HC0_1.out); rintro e w3 ⟨v0_0, rfl, ho0, hb⟩; replace BK3 := uKb BK3 hb; have HS3 := zM hb.size; have HO0_0 := uR HB.out ho0; clear ho0; obtain ⟨Ao0_0, co0_0, eo0_0⟩ := Kd.R_slice HO0_0.out; subst eo0_0; replace HB := zM (below_step HB.out hb); clear hb; replace hc3_0 := zy BK3 0; replace hf3_0 := blk_frozen BK3.out 0; replace hc3_1 := zy BK3 1; replace hf3_1 := blk_frozen BK3.out 1)
    | (have hst_ : Aside0 (Below w.heap.size w w3) := HB; clear hst_; go_at_call 18; refine (laws_toIntS.calls k2 _ _ l2 l2 _ ?side1 ?side2 H2.out).mono ?_; (case side1 => exact zC (Kd.C_below HR2.out HB.out)); (case side2 => exact HC2.out); rintro e w4 ⟨v1_0, rfl, ho0, hb⟩; replace HO0_0 := uRb HO0_0 hb; replace BK3 := uKb BK3 hb; have HS4 := zM hb.size; have HO1_0 := uR HB.out ho0; clear ho0; obtain ⟨Ao1_0, co1_0, eo1_0⟩ := Kd.R_slice HO1_0.out; subst eo1_0; replace HB := zM (below_step HB.out hb); clear hb; replace hc3_0 := zy BK3 0; replace hf3_0 := blk_frozen BK3.out 0; replace hc3_1 := zy BK3 1; replace hf3_1 := blk_frozen BK3.out 1)
    | (have hst_ : Aside0 (Below w.heap.size w w4) := HB; clear hst_; go_at_call 16; refine (spec_IsTightSet.calls k3 a0_0 _ _ l0_1 a1 _ _ l2 q0 q1 _ ?side1 ?side2 ?side3 ?side4 H3.out).mono ?_; (case side1 => exact zC (Kd.R_reads' HO0_0.out).2.2); (case side2 => exact (Kd.R_reads' HO0_0.out).2.1); (case side3 => exact zC (Kd.R_reads' HO1_0.out).2.2); (case side4 => exact (Kd.R_reads' HO1_0.out).2.1); clear HO0_0; clear HO1_0; rintro e w5 ⟨rfl, hb⟩; replace BK3 := uKb BK3 hb; have HS5 := zM hb.size; replace HB := zM (below_step HB.out hb); clear hb; replace hc3_0 := zy BK3 0; replace hf3_0 := blk_frozen BK3.out 0; replace hc3_1 := zy BK3 1; replace hf3_1 := blk_frozen BK3.out 1)
    | (have hst_ : Aside0 (Below w.heap.size w w5) := HB; clear hst_; go_at_call 17; refine (laws_toGraph.calls k1 a0_0 _ _ l0_1 a0_0 l0_1 _ ?side1 ?side2 H1.out).mono ?_; (case side1 => exact zC (Kd.C_below HR0_1.out HB.out)); (case side2 => exact HC0_1.out); rintro e w6 ⟨v2_0, rfl, ho0, hb⟩; replace BK3 := uKb BK3 hb; have HS6 := zM hb.size; have HO2_0 := uR HB.out ho0; clear ho0; obtain ⟨Ao2_0, co2_0, eo2_0⟩ := Kd.R_slice HO2_0.out; subst eo2_0; replace HB := zM (below_step HB.out hb); clear hb; replace hc3_0 := zy BK3 0; replace hf3_0 := blk_frozen BK3.out 0; replace hc3_1 := zy BK3 1; replace hf3_1 := blk_frozen BK3.out 1)
    | ((with_reducible refine gate_dst (N := 10) rfl ?_); refine ze 10 #[.int .i64 0, .slice none 0 0] 29 ?_; intro gb10 hg w7 hbox hb; have HG10 := zM hg; have HW10 := zM (show w.heap.size ≤ gb10 by rw [hg]; exact below_size HB.out); have HL10 := zM (blk_lt hbox); clear hg; replace HO2_0 := uRb HO2_0 hb; replace BK3 := uKb BK3 hb; have HS7 := zM hb.size; replace HB := zM (below_step HB.out hb); have BK10 := zM hbox; clear hbox hb; replace hc3_0 := zy BK3 0; replace hf3_0 := blk_frozen BK3.out 0; replace hc3_1 := zy BK3 1; replace hf3_1 := blk_frozen BK3.out 1; have hc10_0 := zy BK10 0; have hf10_0 := blk_frozen BK10.out 0; have hc10_1 := zy BK10 1; have hf10_1 := blk_frozen BK10.out 1)
    | (have hst_ : Aside0 (Below w.heap.size w w7) := HB; clear hst_; go_at_call 18; refine uBox BK10 HB HW10.out ?_; intro w8 BKn hk HBn; replace HO2_0 := uRk HO2_0 hk (fun k_ hk_ e_ => by have e2 : k_ = gb10 := e_; have := HG10.out; have := HL10.out; have h2 : w5.heap.size ≤ k_ ∧ k_ < w6.heap.size := hk_; omega); replace BK3 := uKk BK3 hk (fun e_ => by have e2 : gb3 = gb10 := e_; have := HG10.out; have := HL10.out; have := HG3.out; have := HL3.out; have := HS2.out; have := HS3.out; have := HS4.out; have := HS5.out; have := HS6.out; omega); replace BK10 := BKn; replace HB := HBn; clear BKn HBn; have HS8 := zM hk.1; clear hk; refine (laws_toIntS.calls k2 _ _ l2 l2 _ ?side1 ?side2 H2.out).mono ?_; (case side1 => exact zC (Kd.C_below HR2.out HB.out)); (case side2 => exact HC2.out); rintro e w9 ⟨v3_0, rfl, ho0, hb⟩; replace HO2_0 := uRb HO2_0 hb; replace BK3 := uKb BK3 hb; replace BK10 := uKb BK10 hb; have HS9 := zM hb.size; have HO3_0 := uR HB.out ho0; clear ho0; obtain ⟨Ao3_0, co3_0, eo3_0⟩ := Kd.R_slice HO3_0.out; subst eo3_0; replace HB := zM (below_step HB.out hb); clear hb; replace hc3_0 := zy BK3 0; replace hf3_0 := blk_frozen BK3.out 0; replace hc3_1 := zy BK3 1; replace hf3_1 := blk_frozen BK3.out 1; replace hc10_0 := zy BK10 0; replace hf10_0 := blk_frozen BK10.out 0; replace hc10_1 := zy BK10 1; replace hf10_1 := blk_frozen BK10.out 1)
    | (have hst_ : Aside0 (Below w.heap.size w w9) := HB; clear hst_; go_at_call 19; refine (impl_IsTightSet.calls k4 a0_0 _ _ l0_1 a1 _ _ l2 q0 q1 _ ?side1 ?side2 ?side3 ?side4 H4.out).mono ?_; (case side1 => exact zC (Kd.R_reads' HO2_0.out).2.2); (case side2 => exact (Kd.R_reads' HO2_0.out).2.1); (case side3 => exact zC (Kd.R_reads' HO3_0.out).2.2); (case side4 => exact (Kd.R_reads' HO3_0.out).2.1); rintro e w10 ⟨rfl, hb⟩; replace HO2_0 := uRb HO2_0 hb; replace HO3_0 := uRb HO3_0 hb; replace BK3 := uKb BK3 hb; replace BK10 := uKb BK10 hb; have HS10 := zM hb.size; replace HB := zM (below_step HB.out hb); clear hb; replace hc3_0 := zy BK3 0; replace hf3_0 := blk_frozen BK3.out 0; replace hc3_1 := zy BK3 1; replace hf3_1 := blk_frozen BK3.out 1; replace hc10_0 := zy BK10 0; replace hf10_0 := blk_frozen BK10.out 0; replace hc10_1 := zy BK10 1; replace hf10_1 := blk_frozen BK10.out 1))
  (try simp only [Act.put, List.setIfInBounds_toArray, List.set_cons_zero, List.set_cons_succ])
  replace HO2_0 := zM (Kd.R_drew HO2_0.out)
  replace HO3_0 := zM (Kd.R_drew HO3_0.out)
  replace BK3 := zM (blk_drew BK3.out)
  replace BK10 := zM (blk_drew BK10.out)
  replace HB := zM (below_drew1 HB.out)
  refine zs (n := 5) (fun w' => w'.cell? ⟨gb10, 0, none⟩ = some (.int .i64 a0_0) ∧ w'.cell? ⟨gb10, 1, none⟩ = some (.slice Ao2_0 l0_1.length co2_0) ∧ w'.cell? ⟨gb3, 0, none⟩ = some (.int .i64 a0_0) ∧ w'.cell? ⟨gb3, 1, none⟩ = some (.slice A0_1 l0_1.length c0_1)) ⟨(blk_cell BK10.out 0).trans rfl, (blk_cell BK10.out 1).trans rfl, (blk_cell BK3.out 0).trans rfl, (blk_cell BK3.out 1).trans rfl⟩ (fun hHeld => ?_)
  have HS11 := zM (show w10.heap.size ≤ w10.drew.heap.size from Nat.le_refl _)
  generalize w10.drew = w11 at HO2_0 HO3_0 BK3 BK10 HB HS11 hHeld ⊢
  refine zl 0 50 hHeld ?_ (hy := by rintro w' ⟨s0, s1, s2, s3⟩; go_simp; with_reducible rfl)
  refine zl 1 51 hHeld ?_ (hy := by rintro w' ⟨s0, s1, s2, s3⟩; go_simp; with_reducible rfl)
  refine zh 2 52 Try.func17 #[.agg #[.int .i64 a0_0, .slice A0_1 l0_1.length c0_1]] (fun K hK => ?_)
  (refine (laws_toGraph.calls k1 a0_0 _ _ l0_1 a0_0 l0_1 _ ?side1 ?side2 H1.out).mono ?_; (case side1 => exact zC (Kd.C_below HR0_1.out HB.out)); (case side2 => exact HC0_1.out); rintro e w12 ⟨v4_0, rfl, ho0, hb⟩; replace HO2_0 := uRb HO2_0 hb; replace HO3_0 := uRb HO3_0 hb; replace BK3 := uKb BK3 hb; replace BK10 := uKb BK10 hb; have HS12 := zM hb.size; have HO4_0 := uR HB.out ho0; clear ho0; obtain ⟨Ao4_0, co4_0, eo4_0⟩ := Kd.R_slice HO4_0.out; subst eo4_0; replace HB := zM (below_step HB.out hb); clear hb)
  refine ⟨_, rfl, ?_⟩
  refine hK.out _ _ ⟨(blk_cell BK10.out 0).trans rfl, (blk_cell BK10.out 1).trans rfl, (blk_cell BK3.out 0).trans rfl, (blk_cell BK3.out 1).trans rfl⟩ (fun hHeld => ?_)
  clear hK K
  refine zn 52 ?_
  refine zh 3 53 Try.func20 #[.agg #[.int .i64 a0_0, .slice Ao2_0 l0_1.length co2_0], .agg #[.int .i64 a0_0, .slice Ao4_0 l0_1.length co4_0]] (fun K hK => ?_)
  (refine (laws_eqGraph.calls k5 a0_0 _ _ l0_1 a0_0 _ _ l0_1 true _ ?side1 ?side2 ?side3 ?side4 H5.out).mono ?_; (case side1 => exact zC (Kd.R_reads' HO2_0.out).2.2); (case side2 => exact (Kd.R_reads' HO2_0.out).2.1); (case side3 => exact zC (Kd.R_reads' HO4_0.out).2.2); (case side4 => exact (Kd.R_reads' HO4_0.out).2.1); clear HO2_0; clear HO4_0; rintro e w13 ⟨rfl, hb⟩; replace HO3_0 := uRb HO3_0 hb; replace BK3 := uKb BK3 hb; replace BK10 := uKb BK10 hb; have HS13 := zM hb.size; replace HB := zM (below_step HB.out hb); clear hb)
  refine ⟨_, rfl, ?_⟩
  refine hK.out _ _ ⟨(blk_cell BK10.out 0).trans rfl, (blk_cell BK10.out 1).trans rfl, (blk_cell BK3.out 0).trans rfl, (blk_cell BK3.out 1).trans rfl⟩ (fun hHeld => ?_)
  clear hK K
  refine zn 53 ?_
  refine zq 4 54 ?_
  refine zx ?_
  replace hc3_0 := zy BK3 0
  replace hf3_0 := blk_frozen BK3.out 0
  replace hc3_1 := zy BK3 1
  replace hf3_1 := blk_frozen BK3.out 1
  replace hc10_0 := zy BK10 0
  replace hf10_0 := blk_frozen BK10.out 0
  replace hc10_1 := zy BK10 1
  replace hf10_1 := blk_frozen BK10.out 1
  go_wp2_with (first
    | (have hst_ : Aside0 (Below w.heap.size w w13) := HB; clear hst_; go_at_call 18; refine (laws_toIntS.calls k2 _ _ l2 l2 _ ?side1 ?side2 H2.out).mono ?_; (case side1 => exact zC (Kd.C_below HR2.out HB.out)); (case side2 => exact HC2.out); clear BK3 hc3_0 hf3_0 hc3_1 hf3_1; clear BK10 hc10_0 hf10_0 hc10_1 hf10_1; rintro e w14 ⟨v5_0, rfl, ho0, hb⟩; replace HO3_0 := uRb HO3_0 hb; have HS14 := zM hb.size; have HO5_0 := uR HB.out ho0; clear ho0; obtain ⟨Ao5_0, co5_0, eo5_0⟩ := Kd.R_slice HO5_0.out; subst eo5_0; replace HB := zM (below_step HB.out hb); clear hb)
    | (have hst_ : Aside0 (Below w.heap.size w w14) := HB; clear hst_; go_at_call 21; refine (laws_eqIntS.calls k6 _ _ l2 _ _ l2 true _ ?side1 ?side2 ?side3 ?side4 H6.out).mono ?_; (case side1 => exact zC (Kd.R_reads' HO3_0.out).2.2); (case side2 => exact (Kd.R_reads' HO3_0.out).2.1); (case side3 => exact zC (Kd.R_reads' HO5_0.out).2.2); (case side4 => exact (Kd.R_reads' HO5_0.out).2.1); clear HO3_0; clear HO5_0; rintro e w15 ⟨rfl, hb0⟩; have hb := hb0.below; clear hb0; have HS15 := zM hb.size; replace HB := zM (below_step HB.out hb); clear hb))
  go_ret
  exact ⟨rfl, HB.out⟩
end Go.Proofs.Ytnlmijnbfdhdkaa.P
namespace Go.Proofs.Ytnlmijnbfdhdkaa.P
open Go.RowKit Go.Deep Go.ChangeShapes Go.Joins Go.Proofs.YtnlmijnbfdhdkaaW.PrintWords
set_option linter.unusedVariables false
set_option linter.unusedSimpArgs false
/-- A whole number, a list of them, a list of pairs, a list of lists, as they come in. -/
def FitL (l : List Int) : Prop := l.length ≤ 9223372036854775807 ∧ ∀ n ∈ l, (Lit.int .i64 n).wf = true
def FitP (l : List S88) : Prop := l.length ≤ 9223372036854775807 ∧ ∀ e ∈ l, (Lit.int .i64 e.f0).wf = true ∧ (Lit.int .i64 e.f1).wf = true
section
variable {H : Type} {enc : TypeId × Value → H} {W : World} {base : Nat} {held : Bool} {fuel : Nat}

theorem read_ints {v : Value} {y : DataW H × List MemPlace} (h : DataW.trod enc Try.prog W base (fun _ => true) held fuel 25 [v] = some y) :
    ∃ (A : Option Addr) (c : Nat) (l : List Int), v = .slice A l.length c ∧ l.length ≤ c ∧ Kd.C (Kd.int .i64) W A l.length l ∧ FitL l := by
  rcases open_ints Try.underlying25 Try.underlying3 (by kernel_rfl) h with ⟨hcs, _⟩ | ⟨a, len, cap, zs, hcs, _, hl, hm, hz, _, hcell, hwf⟩
  · injection hcs with hv _
    exact ⟨none, 0, [], hv, Nat.le_refl _, ⟨rfl, Nat.zero_le _, fun h0 => absurd h0 (Nat.lt_irrefl _)⟩, ⟨Nat.zero_le _, fun n hn => by cases hn⟩⟩
  · injection hcs with hv _
    simp only [if_true] at hz
    have hlen : (zs.take len).length = len := by rw [List.length_take]; omega
    refine ⟨some a, cap, zs.take len, by rw [hlen]; exact hv, by omega, ⟨rfl, by unfold maxLen at hm; omega, fun _ => ⟨a, rfl, fun j p hj => ⟨[.int .i64 p], rfl, rfl, fun i u hi => ?_⟩⟩⟩, ⟨by rw [hlen]; unfold maxLen at hm; omega, fun n hn => hwf n (List.mem_of_mem_take hn)⟩⟩
    cases i with
    | succ i => simp at hi
    | zero =>
      have hu : Value.int .i64 p = u := by simpa using hi
      subst hu
      have hj2 := (List.getElem?_eq_some_iff.1 hj).1
      rw [hlen] at hj2
      have hj3 : zs[j]? = some p := by rw [List.getElem?_take, if_pos hj2] at hj; exact hj
      have := hcell j (by omega)
      rw [List.getD_eq_getElem?_getD, hj3] at this
      simpa [show (Kd.int .i64).sz = 1 from rfl] using this

theorem read_prs {v : Value} {y : DataW H × List MemPlace} (h : DataW.trod enc Try.prog W base (fun _ => true) held fuel 22 [v] = some y) :
    ∃ (A : Option Addr) (c : Nat) (l : List S88), v = .slice A l.length c ∧ l.length ≤ c ∧ Kd.C k88 W A l.length l ∧ FitP l := by
  rcases open_slice Try.underlying22 h with ⟨hcs, _⟩ | ⟨a, len, cap, m, n, D, Pl, hcs, _, hl, hm, hmm, _, hx⟩
  · injection hcs with hv _
    exact ⟨none, 0, [], hv, Nat.le_refl _, ⟨rfl, Nat.zero_le _, fun h0 => absurd h0 (Nat.lt_irrefl _)⟩, ⟨Nat.zero_le _, fun n hn => by cases hn⟩⟩
  · injection hcs with hv _
    have hce : Try.prog.cellsOf 88 = 2 := by kernel_rfl
    have hci : Try.prog.cellsOf 3 = 1 := by kernel_rfl
    have each : ∀ i, i < len → ∃ e : S88, (W.cell? (a.add (i * 2)) = some (.int .i64 e.f0) ∧ W.cell? (a.add (i * 2 + 1)) = some (.int .i64 e.f1)) ∧ (Lit.int .i64 e.f0).wf = true ∧ (Lit.int .i64 e.f1).wf = true := by
      intro i hi
      obtain ⟨cs', h1, h2⟩ := hx i (by simp only [if_true] at hmm; omega)
      rw [hce] at h1
      obtain ⟨_, hcl, hcc⟩ := World.cells?_some h1
      obtain ⟨c0, c1, rfl⟩ : ∃ c0 c1, cs' = [c0, c1] := by
        match cs', hcl with
        | [c0, c1], _ => exact ⟨c0, c1, rfl⟩
      obtain ⟨xs, q, rfl, hq, _, hxl, he⟩ := DataW.trod_array Try.underlying88 h2
      have e0 := he 0 (by omega)
      have e1 := he 1 (by omega)
      simp only [hci] at e0 e1
      obtain ⟨y0, hy0⟩ : ∃ y0, xs[0]? = some y0 := ⟨xs[0], List.getElem?_eq_getElem (by omega)⟩
      obtain ⟨y1, hy1⟩ : ∃ y1, xs[1]? = some y1 := ⟨xs[1], List.getElem?_eq_getElem (by omega)⟩
      rw [hy0] at e0
      rw [hy1] at e1
      obtain ⟨n0, k0, _, w0⟩ := DataW.trod_int Try.underlying3 e0
      obtain ⟨n1, k1, _, w1⟩ := DataW.trod_int Try.underlying3 e1
      simp at k0 k1
      subst k0
      subst k1
      have f0 := hcc 0 (by omega)
      have f1 := hcc 1 (by omega)
      refine ⟨⟨n0, n1⟩, ⟨?_, ?_⟩, w0, w1⟩
      · rw [Addr.add_add, Nat.add_zero] at f0
        simpa using f0
      · rw [Addr.add_add] at f1
        simpa using f1
    have hlen : ((List.range len).map fun i => if hi : i < len then (each i hi).choose else z88).length = len := by simp
    refine ⟨some a, cap, (List.range len).map fun i => if hi : i < len then (each i hi).choose else z88, by rw [hlen]; exact hv, by omega, ⟨rfl, by unfold maxLen at hm; omega, fun _ => ⟨a, rfl, fun j p hj => ?_⟩⟩, ⟨by rw [hlen]; unfold maxLen at hm; omega, ?_⟩⟩
    · have hj2 := (List.getElem?_eq_some_iff.1 hj).1
      rw [hlen] at hj2
      have hp : (each j hj2).choose = p := by
        rw [List.getElem?_map, List.getElem?_range hj2] at hj
        simpa [hj2] using hj
      obtain ⟨⟨h1, h2⟩, _⟩ := (each j hj2).choose_spec
      rw [hp] at h1 h2
      refine ⟨[.int .i64 p.f0, .int .i64 p.f1], rfl, k88_mk W p, fun i u hi => ?_⟩
      rw [show k88.sz = 2 from rfl]
      match i, hi with
      | 0, hi =>
        have hu : Value.int .i64 p.f0 = u := by simpa using hi
        subst hu
        exact h1
      | 1, hi =>
        have hu : Value.int .i64 p.f1 = u := by simpa using hi
        subst hu
        exact h2
    · intro e he
      rw [List.mem_map] at he
      obtain ⟨r, hr, rfl⟩ := he
      have hr2 := List.mem_range.1 hr
      simp only [hr2, dif_pos]
      exact (each r hr2).choose_spec.2
end
end Go.Proofs.Ytnlmijnbfdhdkaa.P
namespace Go.Proofs.Ytnlmijnbfdhdkaa.P
open Go.RowKit Go.Proofs.YtnlmijnbfdhdkaaW.PrintWords Go.Proofs.YtnlmijnbfdhdkaaW.PrintLast Go.Proofs.YtnlmijnbfdhdkaaW.PrintMore
set_option linter.unusedVariables false
set_option linter.unusedSimpArgs false
section
variable {α β : Type}
theorem Ev.pos {c : Prop} [Decidable c] {f g : Nat → Option α} {r : α} (h : c) (k : Ev f r) : Ev (fun n => if c then f n else g n) r := by simpa only [if_pos h] using k
theorem Ev.neg {c : Prop} [Decidable c] {f g : Nat → Option α} {r : α} (h : ¬ c) (k : Ev g r) : Ev (fun n => if c then f n else g n) r := by simpa only [if_neg h] using k
theorem Ev.bindo {o : Option α} {f : Nat → α → Option β} {a : α} {r : β} (h : o = some a) (k : Ev (fun n => f n a) r) : Ev (fun n => o.bind (f n)) r := by simpa only [h, Option.bind_some] using k
theorem Ev.some {o : Option α} {r : α} (h : o = some r) : Ev (fun _ => o) r := ⟨0, fun _ _ => h⟩
end
theorem wrap_nat {m : Int} (h : -9223372036854775808 ≤ m) (h2 : m ≤ 9223372036854775807) : wrap64 m = m := by unfold wrap64; omega
theorem wrap_up {m n : Nat} (h : m < n) (hn : n ≤ 9223372036854775807) : wrap64 ((m : Int) + 1) = ((m + 1 : Nat) : Int) := by unfold wrap64; omega
theorem rd_at (l : List Int) (m : Nat) (h : m < l.length) : rd l (m : Int) = l[m] := by simp [rd, List.getD_eq_getElem?_getD, List.getElem?_eq_getElem h]
theorem rdT_at (l : List S88) (m : Nat) (h : m < l.length) : rd_T88 l (m : Int) = l[m] := by simp [rd_T88, List.getD_eq_getElem?_getD, List.getElem?_eq_getElem h]

/-! The size of a graph that comes in. -/
theorem sz_graph (a : Int) (l : List S88) (hl : l.length ≤ 9223372036854775807) : ∃ t, laws_szGraph.f a l 1048576 = some t ∧ (t < 0 ∨ l.length ≤ 1048576) := by
  unfold laws_szGraph.f laws_szIntA2S.f
  rw [wrap_nat (m := 1048576 - (l.length : Int)) (by omega) (by omega)]
  by_cases h : (1048576 - (l.length : Int)) < 0
  · rw [if_pos h]; exact ⟨-1, rfl, .inl (by omega)⟩
  · rw [if_neg h, Option.bind_some, if_neg h]; exact ⟨_, rfl, .inr (by omega)⟩
/-! Copies. -/
theorem take_set_next {α : Type} (l acc : List α) (m : Nat) (hm : m < l.length) (ha : acc.length = l.length) (h : acc.take m = l.take m) : (acc.set m l[m]).take (m + 1) = l.take (m + 1) := by
  rw [List.take_succ_eq_append_getElem (by rw [List.length_set]; omega), List.take_succ_eq_append_getElem hm, List.getElem_set_self, List.take_set_of_le (Nat.le_refl _), h]
theorem toIntA2S_loop (l : List S88) (hl : l.length ≤ 1048576) (d : Nat) : ∀ (acc : List S88) (m : Nat), l.length - m = d → m ≤ l.length → acc.length = l.length → acc.take m = l.take m →
    Ev (fun k => laws_toIntA2S.l0 k l acc (m : Int)) l := by
  induction d with
  | zero =>
    intro acc m h0 h1 h2 h3
    refine Ev.step (fun k => by rw [laws_toIntA2S.l0]) ?_
    refine Ev.neg (by omega) ?_
    have : acc = l := by rw [← List.take_length (l := acc), ← List.take_length (l := l), h2, show l.length = m by omega]; exact h3
    rw [this]
    exact Ev.now _
  | succ d ih =>
    intro acc m h0 h1 h2 h3
    have hm : m < l.length := by omega
    refine Ev.step (fun k => by rw [laws_toIntA2S.l0]) ?_
    refine Ev.pos (by omega) (Ev.pos (by omega) (Ev.bindo rfl (Ev.pos (by omega) ?_)))
    rw [wrap_up hm (by omega), rdT_at l m hm, Int.toNat_natCast]
    exact ih _ (m + 1) (by omega) (by omega) (by rw [List.length_set]; exact h2) (take_set_next l acc m hm h2 h3)
theorem toIntA2S_ev (l : List S88) (hl : l.length ≤ 1048576) : Ev (fun k => laws_toIntA2S.f k l) l := by
  unfold laws_toIntA2S.f
  refine Ev.pos (by omega) (Ev.pos (by omega) ?_)
  exact toIntA2S_loop l hl l.length _ 0 (by omega) (Nat.zero_le _) (by simp) (by simp)
theorem toGraph_ev (a : Int) (l : List S88) (hl : l.length ≤ 1048576) : Ev (fun k => laws_toGraph.f k a l) (a, l) := by
  unfold laws_toGraph.f
  exact Ev.bind (toIntA2S_ev l hl) (Ev.now _)
theorem toIntS_loop (l : List Int) (hl : l.length ≤ 1048576) (d : Nat) : ∀ (acc : List Int) (m : Nat), l.length - m = d → m ≤ l.length → acc.length = l.length → acc.take m = l.take m →
    Ev (fun k => laws_toIntS.l0 k l acc (m : Int)) l := by
  induction d with
  | zero =>
    intro acc m h0 h1 h2 h3
    refine Ev.step (fun k => by rw [laws_toIntS.l0]) ?_
    refine Ev.neg (by omega) ?_
    have : acc = l := by rw [← List.take_length (l := acc), ← List.take_length (l := l), h2, show l.length = m by omega]; exact h3
    rw [this]
    exact Ev.now _
  | succ d ih =>
    intro acc m h0 h1 h2 h3
    have hm : m < l.length := by omega
    refine Ev.step (fun k => by rw [laws_toIntS.l0]) ?_
    refine Ev.pos (by omega) (Ev.pos (by omega) (Ev.pos (by omega) ?_))
    rw [wrap_up hm (by omega), rd_at l m hm, Int.toNat_natCast]
    exact ih _ (m + 1) (by omega) (by omega) (by rw [List.length_set]; exact h2) (take_set_next l acc m hm h2 h3)
theorem toIntS_ev (l : List Int) (hl : l.length ≤ 1048576) : Ev (fun k => laws_toIntS.f k l) l := by
  unfold laws_toIntS.f
  refine Ev.pos (by omega) (Ev.pos (by omega) ?_)
  exact toIntS_loop l hl l.length _ 0 (by omega) (Nat.zero_le _) (by simp) (by simp)
/-! Comparisons of equals. -/
theorem eqIntA2S_loop (l : List S88) (hl : l.length ≤ 1048576) (d : Nat) : ∀ (m : Nat), l.length - m = d → m ≤ l.length → Ev (fun k => laws_eqIntA2S.l0 k l l (m : Int)) true := by
  induction d with
  | zero =>
    intro m h0 h1
    refine Ev.step (fun k => by rw [laws_eqIntA2S.l0]) ?_
    exact Ev.neg (by omega) (Ev.now _)
  | succ d ih =>
    intro m h0 h1
    have hm : m < l.length := by omega
    refine Ev.step (fun k => by rw [laws_eqIntA2S.l0]) ?_
    refine Ev.pos (by omega) (Ev.pos (by omega) (Ev.pos (by omega) (Ev.bindo (a := true) (by simp [laws_eqIntA2.f]) (Ev.pos rfl ?_))))
    rw [wrap_up hm (by omega)]
    exact ih (m + 1) (by omega) (by omega)
theorem eqIntA2S_ev (l : List S88) (hl : l.length ≤ 1048576) : Ev (fun k => laws_eqIntA2S.f k l l) true := by
  unfold laws_eqIntA2S.f
  exact Ev.pos rfl (eqIntA2S_loop l hl l.length 0 (by omega) (Nat.zero_le _))
theorem eqGraph_ev (a : Int) (l : List S88) (hl : l.length ≤ 1048576) : Ev (fun k => laws_eqGraph.f k a l a l) true := by
  unfold laws_eqGraph.f
  exact Ev.pos rfl (Ev.bind (eqIntA2S_ev l hl) (Ev.pos rfl (Ev.now _)))
theorem eqIntS_loop (l : List Int) (hl : l.length ≤ 1048576) (d : Nat) : ∀ (m : Nat), l.length - m = d → m ≤ l.length → Ev (fun k => laws_eqIntS.l0 k l l (m : Int)) true := by
  induction d with
  | zero =>
    intro m h0 h1
    refine Ev.step (fun k => by rw [laws_eqIntS.l0]) ?_
    exact Ev.neg (by omega) (Ev.now _)
  | succ d ih =>
    intro m h0 h1
    have hm : m < l.length := by omega
    refine Ev.step (fun k => by rw [laws_eqIntS.l0]) ?_
    refine Ev.pos (by omega) (Ev.pos (by omega) (Ev.pos (by omega) (Ev.pos rfl ?_)))
    rw [wrap_up hm (by omega)]
    exact ih (m + 1) (by omega) (by omega)
theorem eqIntS_ev (l : List Int) (hl : l.length ≤ 1048576) : Ev (fun k => laws_eqIntS.f k l l) true := by
  unfold laws_eqIntS.f
  exact Ev.pos rfl (eqIntS_loop l hl l.length 0 (by omega) (Nat.zero_le _))
end Go.Proofs.Ytnlmijnbfdhdkaa.P
namespace Go.Proofs.Ytnlmijnbfdhdkaa.P
open Go.RowKit Go.Proofs.YtnlmijnbfdhdkaaW.PrintWords Go.Proofs.YtnlmijnbfdhdkaaW.PrintLast Go.Proofs.YtnlmijnbfdhdkaaW.PrintMore
set_option linter.unusedVariables false
set_option linter.unusedSimpArgs false

def cmpI (a b : Int) : Int := if a < b then -1 else if a > b then 1 else 0
theorem cmp_Compare_at (a b : Int) : cmp_Compare_int.f a b = some (cmpI a b) := by
  unfold cmp_Compare_int.f cmp_isNaN_int.f cmpI
  simp only [Option.bind_some, bne_self_eq_false, Bool.false_eq_true, if_false]
  split
  · rfl
  · split <;> rfl
def cmpP (a b : S88) : Int := if cmpI a.f0 b.f0 = 0 then cmpI a.f1 b.f1 else cmpI a.f0 b.f0
theorem comparePairs_at (a b : S88) (k : Nat) (hk : 3 ≤ k) : impl_comparePairs.f k a.f0 a.f1 b.f0 b.f1 = some (cmpP a b) := by
  obtain ⟨k, rfl⟩ : ∃ q, k = q + 3 := ⟨k - 3, by omega⟩
  unfold impl_comparePairs.f cmp_Or_int.f
  simp only [cmp_Compare_at, Option.bind_some]
  unfold cmpP
  generalize cmpI a.f0 b.f0 = x
  generalize cmpI a.f1 b.f1 = y
  have w1 : wrap64 (0 + 1) = 1 := by unfold wrap64; omega
  have w2 : wrap64 (1 + 1) = 2 := by unfold wrap64; omega
  have r0 : rd [x, y] 0 = x := rfl
  have r1 : rd [x, y] 1 = y := rfl
  have hn : (([x, y] : List Int).length : Int) = 2 := rfl
  rw [hn, cmp_Or_int.l0, if_pos (by omega), if_pos (by omega), hn, if_pos (by omega), r0, w1]
  by_cases h : x = 0
  · rw [if_pos h, if_pos h, cmp_Or_int.l0, if_pos (by omega), if_pos (by omega), hn, if_pos (by omega), r1, w2]
    by_cases h2 : y = 0
    · rw [if_pos h2, cmp_Or_int.l0, if_neg (by omega), h2]; rfl
    · rw [if_neg h2]; rfl
  · rw [if_neg h, if_neg h]; rfl
end Go.Proofs.Ytnlmijnbfdhdkaa.P
