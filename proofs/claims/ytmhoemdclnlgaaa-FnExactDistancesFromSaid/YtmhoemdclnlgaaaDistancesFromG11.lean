/- impl's isState and areValues: a list of numbers within bounds, of a bounded or a given length; for every world. -/
import Derived.Test.YtmhoemdclnlgaaaDistancesFromG10
import Derived.Test.YtmhoemdclnlgaaaDistancesFromG5
import Derived.Shelf.Small.Bits
import Derived.Shelf.Small.Wraps
import Derived.Shelf.Strconv.Itoa0
import Derived.Shelf.Sort.Plain
import Derived.Shelf.Bits.Mul64
import Derived.Shelf.Slices.Equal
import Derived.Ground.Names2Prog
import Derived.Shelf.Slices.Clone
import Derived.Shelf.Slices.SearchI
import Derived.Shelf.Slices.In.SortNone
import Derived.Ground.SlgnProg
import Derived.Shelf.SlicesE.Clone
import Derived.Test.YtmhoemdclnlgaaaProg
import Derived.Handy
import Derived.Sort.OwnSortedInts
namespace Go.Proofs.Ytmhoemdclnlgaaa.P
open Go.RowKit Go.Proofs.YtmhoemdclnlgaaaW.PrintWords Go.Proofs.YtmhoemdclnlgaaaW.PrintLast Go.Proofs.YtmhoemdclnlgaaaW.PrintMore
set_option linter.unusedVariables false
set_option linter.unusedSimpArgs false

/-- Not from -b to b. -/
def outB (b n : Int) : Bool := !(decide (-b ≤ n) && decide (n ≤ b))
set_option maxHeartbeats 1000000 in
theorem isState1_any (n : Int) (W : World) : Calls Try.prog 161 #[.int .i64 n] W fun e w' => e = .returned (.bool (outB 99 n)) ∧ Below W.heap.size W w' := by
  have e : outB 99 n = !(decide (-99 ≤ n) && decide (n ≤ 99)) := rfl
  rw [e]
  clear e
  by_cases h0 : -99 ≤ n
  · have h0b : decide (-99 ≤ n) = true := decide_eq_true h0
    have h0c : decide (n ≥ -99) = true := decide_eq_true h0
    clear h0
    go_enter Try.func161, Try.ntmps161
    go_wp2
    go_ret
    exact ⟨by first | rfl | simp [*], by repeat (first | exact Below.refl _ _ | apply below_alloc | apply pw_below_drewN | apply below_drew1)⟩
  · have h0b : decide (-99 ≤ n) = false := decide_eq_false h0
    have h0c : decide (n ≥ -99) = false := decide_eq_false h0
    clear h0
    go_enter Try.func161, Try.ntmps161
    go_wp2
    go_ret
    exact ⟨by first | rfl | simp [*], by repeat (first | exact Below.refl _ _ | apply below_alloc | apply pw_below_drewN | apply below_drew1)⟩
def impl_isState.f (l0 : List Int) : Option Bool := some (decide ((l0.length : Int) ≤ 24) && !(l0.any (outB 99)))
set_option maxHeartbeats 1000000 in
theorem impl_isState.calls (A0 : Option Addr) (c0 : Nat) (l0 : List Int) (r : Bool) (w : World) (hr0 : Kd.C (Kd.int .i64) w A0 l0.length l0) (hc0 : l0.length ≤ c0) (h : impl_isState.f l0 = some r) :
    Calls Try.prog 121 #[.slice A0 l0.length c0] w fun e w' => e = .returned (.bool r) ∧ Below w.heap.size w w' := by
  obtain rfl := Option.some.inj h
  clear h
  have HP := Aside0.mk (show PredB 161 #[] (Value.int .i64) (outB 99) l0 w from fun W x _ _ => isState1_any x W)
  have HR0 := Aside0.mk hr0
  clear hr0
  generalize hg : l0.any (outB 99) = b
  have HG := Aside0.mk hg
  clear hg
  by_cases h0 : (l0.length : Int) ≤ 24
  · have h0b : decide ((l0.length : Int) ≤ 24) = true := decide_eq_true h0
    have h0c : decide (l0.length ≤ 24) = true := decide_eq_true (by omega)
    rw [h0b]
    clear h0
    go_enter Try.func121, Try.ntmps121
    go_wp2_with (go_at_call 160; refine (cont_ints _ #[] (enters_of Try.func161 (by kernel_rfl) rfl) _ A0 c0 l0 _ HR0.out HP.out).mono ?_; rintro e w' ⟨rfl, hb⟩; rw [HG.out]; have HB := Aside0.mk hb; clear hb)
    go_ret
    exact ⟨by first | rfl | (simp; done), HB.out⟩
  · have h0b : decide ((l0.length : Int) ≤ 24) = false := decide_eq_false h0
    have h0c : decide (l0.length ≤ 24) = false := decide_eq_false (by omega)
    rw [h0b]
    clear h0
    go_enter Try.func121, Try.ntmps121
    go_wp2
    go_ret
    exact ⟨by first | rfl | (simp; done), Below.refl _ _⟩


end Go.Proofs.Ytmhoemdclnlgaaa.P
namespace Go.Proofs.Ytmhoemdclnlgaaa.P
open Go.RowKit Go.Proofs.YtmhoemdclnlgaaaW.PrintWords Go.Proofs.YtmhoemdclnlgaaaW.PrintLast Go.Proofs.YtmhoemdclnlgaaaW.PrintMore
attribute [local go_sem] max2_int min2_int max_two min_two max_three min_three max_four min_four   -- for this text's walks alone
set_option linter.unusedVariables false
set_option linter.unusedSimpArgs false

/-! ### impl_IsSpace: function 57 -/
mutual
def impl_IsSpace.j0 : Nat → Bool → List (List Int) → List (S79) → Option (Bool)
 | 0, _, _, _ => none
 | k + 1, x14, x231000, x231001 => if x14 = true then (some false) else (impl_IsSpace.l0 k x231000 (x231000.length : Int) 0 x231000 x231001)
def impl_IsSpace.l0 : Nat → List (List Int) → Int → Int → List (List Int) → List (S79) → Option (Bool)
 | 0, _, _, _, _, _ => none
 | k + 1, x16, x17, x18, x231000, x231001 => if x18 < x17 then (if 0 ≤ x18 then (if x18 < (x16.length : Int) then ((impl_isState.f (rd_L1 x16 x18)).bind fun t233 => (if t233 = true then (if x18 > 0 then (if 0 ≤ (wrap64 (x18 - 1)) then (if (wrap64 (x18 - 1)) < (x231000.length : Int) then ((slices_Compare_int_int.f k (rd_L1 x231000 (wrap64 (x18 - 1))) (rd_L1 x16 x18)).bind fun t235 => (if t235 ≥ 0 then (some false) else (impl_IsSpace.l0 k x16 x17 (wrap64 (x18 + 1)) x231000 x231001))) else (none)) else (none)) else (impl_IsSpace.l0 k x16 x17 (wrap64 (x18 + 1)) x231000 x231001)) else (some false))) else (none)) else (none)) else ((impl_isPairs.f k x231001 (x231000.length : Int)).bind fun t231 => (some t231))
end
def impl_IsSpace.f (k : Nat) (l0_0 : List (List Int)) (l0_1 : List (S79)) : Option (Bool) := if (l0_0.length : Int) > 300 then (impl_IsSpace.j0 k true l0_0 l0_1) else (impl_IsSpace.j0 k (decide ((l0_1.length : Int) > 6000)) l0_0 l0_1)
set_option maxHeartbeats 8000000 in
set_option maxRecDepth 100000 in
theorem impl_IsSpace.calls (k : Nat) (A0_0 : Option Addr) (c0_0 : Nat) (l0_0 : List (List Int)) (A0_1 : Option Addr) (c0_1 : Nat) (l0_1 : List (S79)) (r : Bool) (w : World) (hr0_0 : Kd.C (Kd.slice 3 (Kd.int .i64)) w A0_0 l0_0.length l0_0) (hc0_0 : l0_0.length ≤ c0_0) (hr0_1 : Kd.C k79 w A0_1 l0_1.length l0_1) (hc0_1 : l0_1.length ≤ c0_1) (h : impl_IsSpace.f k l0_0 l0_1 = some r) :
 Calls Try.prog 57 #[.agg #[.slice A0_0 l0_0.length c0_0, .slice A0_1 l0_1.length c0_1]] w fun e w' => e = .returned (.bool r) ∧ Below w.heap.size w w' := by
 have hu30 := Try.underlying30
 have HR0_0 := Aside0.mk hr0_0
 have HC0_0 := Aside0.mk hc0_0
 clear hr0_0 hc0_0
 have HR0_1 := Aside0.mk hr0_1
 have HC0_1 := Aside0.mk hc0_1
 clear hr0_1 hc0_1
 have HB := zM (Below.refl w.heap.size w)
 have H : (if (l0_0.length : Int) > 300 then (impl_IsSpace.j0 k true l0_0 l0_1) else (impl_IsSpace.j0 k (decide ((l0_1.length : Int) > 6000)) l0_0 l0_1)) = some r := h
 clear h
 have HC2 := Aside0.mk H
 clear H
 go_enter Try.func57, Try.ntmps57
 go_upto_region 1 with (first | ((with_reducible refine gate_dst (N := 1) rfl ?_); (try (refine gate_guard (by rfl) ?_; dsimp only)); refine zb (w := w) 1 #[.slice A0_0 l0_0.length c0_0, .slice A0_1 l0_1.length c0_1] 30 zB ?_; clear HB; intro gb230 w3 HB BK230 GW230; have GE230 := GW230))
 (try simp only [Act.put, List.setIfInBounds_toArray, List.set_cons_zero, List.set_cons_succ])
 go_cut [14] (fun v14 wc => ∃ (kq : Nat) (x14_1 : Bool), v14 = .bool x14_1 ∧ Aside0 (impl_IsSpace.j0 kq x14_1 l0_0 l0_1 = some r) ∧ Aside0 (kq ≤ k) ∧ Aside0 (wc.heap[gb230]? = some (.cells #[(.slice A0_0 l0_0.length c0_0), (.slice A0_1 l0_1.length c0_1)] 30 (0, 0))) ∧ Aside0 (Below w.heap.size w wc))
 case first =>
  have H := HC2.out
  clear HC2
  by_cases c4 : (l0_0.length : Int) > 300
  · rw [if_pos c4] at H
    have c4b0 : decide (300 < (l0_0.length : Int)) = true := decide_eq_true c4
    have c4b1 : decide (300 < l0_0.length) = true := decide_eq_true (by omega)
    clear c4
    (first | rw [c4b0] | (simp only [i64_w, i32_w]; rw [c4b0]) | skip)
    have H' := Aside0.mk H
    clear H
    have hcz5_0 := zy BK230 0
    have hcz5_1 := zy BK230 1
    have hfz5_0 := blk_frozen BK230.out 0
    have hfz5_1 := blk_frozen BK230.out 1
    go_wp2
    go_meet
    case rel => exact ⟨_, (true), (by first | rfl | (simp; done) | (simp [*]; done)), H', ⟨by first | omega | exact Nat.le_refl _⟩, ⟨zK BK230.out⟩, ⟨zB⟩⟩
  · rw [if_neg c4] at H
    have c4b0 : decide (300 < (l0_0.length : Int)) = false := decide_eq_false c4
    have c4b1 : decide (300 < l0_0.length) = false := decide_eq_false (by omega)
    clear c4
    (first | rw [c4b0] | (simp only [i64_w, i32_w]; rw [c4b0]) | skip)
    have H' := Aside0.mk H
    clear H
    have hcz6_0 := zy BK230 0
    have hcz6_1 := zy BK230 1
    have hfz6_0 := blk_frozen BK230.out 0
    have hfz6_1 := blk_frozen BK230.out 1
    go_wp2
    go_meet
    case rel => exact ⟨_, (decide ((l0_1.length : Int) > 6000)), (by first | rfl | (simp; done) | (simp [*]; done)), H', ⟨by first | omega | exact Nat.le_refl _⟩, ⟨zK BK230.out⟩, ⟨zB⟩⟩
 case rest =>
  clear HC2
  try clear p2
  try clear c4
  try clear c4b0
  try clear c4b1
  try clear c5
  try clear hcz5_0
  try clear hcz5_1
  try clear hcz6_0
  try clear hcz6_1
  try clear hfz5_0
  try clear hfz5_1
  try clear hfz6_0
  try clear hfz6_1
  obtain ⟨kq, x14_1, rfl, HA, HJ1, BK230, HB⟩ := hcut
  cases kq with
  | zero => exact absurd HA.out (by simp [impl_IsSpace.j0])
  | succ kj1 =>
   have H := HA.out
   clear HA
   simp only [impl_IsSpace.j0] at H
   by_cases c7 : x14_1 = true
   · subst c7
     rw [if_pos rfl] at H
     obtain rfl := Option.some.inj H
     go_wp2
     go_ret
     exact ⟨by first | rfl | (simp [errW_none, errW_some] <;> rfl) | (simp [*, errW_none, errW_some] <;> rfl), zB⟩
   · replace c7 := Bool.eq_false_iff.mpr c7
     subst c7
     have H1 : (impl_IsSpace.l0 kj1 l0_0 (l0_0.length : Int) 0 l0_0 l0_1) = some r := by rw [if_neg (show ¬ (false = true) by decide)] at H; exact H
     clear H
     have H := H1
     clear H1
     have H' := Aside0.mk H
     clear H
     have hcz8_0 := zy BK230 0
     have hcz8_1 := zy BK230 1
     have hfz8_0 := blk_frozen BK230.out 0
     have hfz8_1 := blk_frozen BK230.out 1
     go_wp2
     go_loopg [18] kj1 (fun kq v18 w' => ∃ (x18_2 : Int), v18 = .int .i64 x18_2 ∧ Aside0 (impl_IsSpace.l0 kq l0_0 (l0_0.length : Int) x18_2 l0_0 l0_1 = some r) ∧ Aside0 (kq ≤ kj1) ∧ Aside0 (w'.heap[gb230]? = some (.cells #[(.slice A0_0 l0_0.length c0_0), (.slice A0_1 l0_1.length c0_1)] 30 (0, 0))) ∧ Aside0 (Below w.heap.size w w'))
     case atStart => exact ⟨(0), (by first | rfl | (simp; done) | (simp [*]; done)), H', ⟨Nat.le_refl _⟩, ⟨zK BK230.out⟩, ⟨zB⟩⟩
     case round =>
      clear H'
      try clear p2
      try clear c4
      try clear c4b0
      try clear c4b1
      try clear c5
      try clear c7
      try clear hcz5_0
      try clear hcz5_1
      try clear hcz6_0
      try clear hcz6_1
      try clear hcz8_0
      try clear hcz8_1
      try clear hfz5_0
      try clear hfz5_1
      try clear hfz6_0
      try clear hfz6_1
      try clear hfz8_0
      try clear hfz8_1
      try clear p2
      obtain ⟨x18_2, rfl, HA, HK2, BK230, HB⟩ := hrel
      cases gk with
      | zero => exact absurd HA.out (by simp [impl_IsSpace.l0])
      | succ k2 =>
       have H := HA.out
       clear HA
       simp only [impl_IsSpace.l0] at H
       by_cases c9 : x18_2 < (l0_0.length : Int)
       · rw [if_pos c9] at H
         have c9b0 := decide_eq_true c9
         clear c9
         by_cases c10 : 0 ≤ x18_2
         · rw [if_pos c10] at H
           have c10b0 := decide_eq_true c10
           clear c10
           by_cases c11 : x18_2 < (l0_0.length : Int)
           · rw [if_pos c11] at H
             have c11b0 := decide_eq_true c11
             clear c11
             replace H := Option.bind_eq_some_iff.mp H
             obtain ⟨t233, A120, H⟩ := H
             have A12 := Aside0.mk A120
             clear A120
             by_cases c13 : t233 = true
             · subst c13
               rw [if_pos rfl] at H
               by_cases c14 : x18_2 > 0
               · rw [if_pos c14] at H
                 have c14b0 : decide (0 < x18_2) = true := decide_eq_true c14
                 clear c14
                 obtain ⟨ji15, hji15⟩ : ∃ j_ : Int, (wrap64 (x18_2 - 1)) = j_ := ⟨_, rfl⟩
                 replace H : (if 0 ≤ (ji15) then (if (ji15) < (l0_0.length : Int) then ((slices_Compare_int_int.f k2 (rd_L1 l0_0 (ji15)) (rd_L1 l0_0 x18_2)).bind fun t235 => (if t235 ≥ 0 then (some false) else (impl_IsSpace.l0 k2 l0_0 (l0_0.length : Int) (wrap64 (x18_2 + 1)) l0_0 l0_1))) else (none)) else (none)) = some r := by first | (rw [hji15] at H; exact H) | (simp only [hji15] at H ⊢; exact H)
                 (try rw [hji15] at A12)
                 have hji15w : (IntKind.i64.wrap (x18_2 - 1)) = ji15 := (i64_w _).trans hji15
                 by_cases c16 : 0 ≤ (ji15)
                 · rw [if_pos c16] at H
                   have c16b0 := decide_eq_true c16
                   clear c16
                   by_cases c17 : (ji15) < (l0_0.length : Int)
                   · rw [if_pos c17] at H
                     have c17b0 := decide_eq_true c17
                     clear c17
                     replace H := Option.bind_eq_some_iff.mp H
                     obtain ⟨t235, A180, H⟩ := H
                     have A18 := Aside0.mk A180
                     clear A180
                     by_cases c19 : t235 ≥ 0
                     · rw [if_pos c19] at H
                       have c19b0 : decide (0 ≤ t235) = true := decide_eq_true c19
                       clear c19
                       obtain rfl := Option.some.inj H
                       have p232 : 0 ≤ (x18_2 : Int) := of_decide_eq_true zA
                       have q232 : x18_2 < (l0_0.length : Int) := of_decide_eq_true zA
                       obtain ⟨ad232, A232_0, c232_0, e232, hx232_0, hl232_0, hi232_0⟩ := at_L1 HR0_0.out x18_2 p232 q232
                       cases e232
                       (try replace hx232_0 := (HB.out.cell (World.block_lt_of_cell? w _ hx232_0)).trans hx232_0)
                       have HR232_0 := Aside0.mk hi232_0
                       have HC232_0 := Aside0.mk hl232_0
                       clear hi232_0 hl232_0
                       replace p232 := eq_true p232
                       replace q232 := eq_true q232
                       go_wp2_with (first | ((with_reducible refine gate_callee (f := 121) rfl ?_); refine zc 24 Try.func121 #[.slice A232_0 (rd_L1 l0_0 x18_2).length c232_0] ?_; (with_reducible refine (impl_isState.calls _ _ (rd_L1 l0_0 x18_2) true _ ?side1 ?side2 A12.out).mono ?_); (case side1 => exact zC (Kd.C_below HR232_0.out HB.out)); (case side2 => exact HC232_0.out); rintro e w20 ⟨rfl, hb⟩; refine ⟨_, rfl, ?_⟩; replace BK230 := zM (blk_below (g := gb230) (o := .cells #[.slice (some ad232) l0_0.length c0_0, .slice A0_1 l0_1.length c0_1] 30 (0, 0)) (zK BK230.out) hb); replace HB := zM (below_step zB hb); (try clear hb); (try clear hb2); (try clear hk); (try clear hi); have hcz21_0 := zy BK230 0; have hcz21_1 := zy BK230 1; have hfz21_0 := blk_frozen BK230.out 0; have hfz21_1 := blk_frozen BK230.out 1; have p234 : 0 ≤ ((ji15) : Int) := of_decide_eq_true zA; have q234 : (ji15) < (l0_0.length : Int) := of_decide_eq_true zA; obtain ⟨ad234, A234_0, c234_0, e234, hx234_0, hl234_0, hi234_0⟩ := at_L1 HR0_0.out (ji15) p234 q234; obtain rfl : ad232 = ad234 := (by injection e234); (try replace hx234_0 := (HB.out.cell (World.block_lt_of_cell? w _ hx234_0)).trans hx234_0); have HR234_0 := Aside0.mk hi234_0; have HC234_0 := Aside0.mk hl234_0; clear hi234_0 hl234_0; replace p234 := eq_true p234; replace q234 := eq_true q234) | (go_at_call 107; (with_reducible refine (slices_Compare_int_int.calls k2 _ _ (rd_L1 l0_0 (ji15)) _ _ (rd_L1 l0_0 x18_2) t235 _ ?side1 ?side2 ?side3 ?side4 A18.out).mono ?_); (case side1 => exact zC (Kd.C_below HR234_0.out HB.out)); (case side2 => exact HC234_0.out); (case side3 => exact zC (Kd.C_below HR232_0.out HB.out)); (case side4 => exact HC232_0.out); rintro e w' ⟨rfl, ⟨nd, rfl⟩⟩))
                       go_ret
                       exact ⟨by first | rfl | (simp [errW_none, errW_some] <;> rfl) | (simp only [← hji15]; first | rfl | (simp [errW_none, errW_some] <;> rfl)) | (simp [*, errW_none, errW_some] <;> rfl), zB⟩
                     · rw [if_neg c19] at H
                       have c19b0 : decide (0 ≤ t235) = false := decide_eq_false c19
                       clear c19
                       have H' := Aside0.mk H
                       clear H
                       have p232 : 0 ≤ (x18_2 : Int) := of_decide_eq_true zA
                       have q232 : x18_2 < (l0_0.length : Int) := of_decide_eq_true zA
                       obtain ⟨ad232, A232_0, c232_0, e232, hx232_0, hl232_0, hi232_0⟩ := at_L1 HR0_0.out x18_2 p232 q232
                       cases e232
                       (try replace hx232_0 := (HB.out.cell (World.block_lt_of_cell? w _ hx232_0)).trans hx232_0)
                       have HR232_0 := Aside0.mk hi232_0
                       have HC232_0 := Aside0.mk hl232_0
                       clear hi232_0 hl232_0
                       replace p232 := eq_true p232
                       replace q232 := eq_true q232
                       go_wp2_with (first | ((with_reducible refine gate_callee (f := 121) rfl ?_); refine zc 24 Try.func121 #[.slice A232_0 (rd_L1 l0_0 x18_2).length c232_0] ?_; (with_reducible refine (impl_isState.calls _ _ (rd_L1 l0_0 x18_2) true _ ?side1 ?side2 A12.out).mono ?_); (case side1 => exact zC (Kd.C_below HR232_0.out HB.out)); (case side2 => exact HC232_0.out); rintro e w22 ⟨rfl, hb⟩; refine ⟨_, rfl, ?_⟩; replace BK230 := zM (blk_below (g := gb230) (o := .cells #[.slice (some ad232) l0_0.length c0_0, .slice A0_1 l0_1.length c0_1] 30 (0, 0)) (zK BK230.out) hb); replace HB := zM (below_step zB hb); (try clear hb); (try clear hb2); (try clear hk); (try clear hi); have hcz23_0 := zy BK230 0; have hcz23_1 := zy BK230 1; have hfz23_0 := blk_frozen BK230.out 0; have hfz23_1 := blk_frozen BK230.out 1; have p234 : 0 ≤ ((ji15) : Int) := of_decide_eq_true zA; have q234 : (ji15) < (l0_0.length : Int) := of_decide_eq_true zA; obtain ⟨ad234, A234_0, c234_0, e234, hx234_0, hl234_0, hi234_0⟩ := at_L1 HR0_0.out (ji15) p234 q234; obtain rfl : ad232 = ad234 := (by injection e234); (try replace hx234_0 := (HB.out.cell (World.block_lt_of_cell? w _ hx234_0)).trans hx234_0); have HR234_0 := Aside0.mk hi234_0; have HC234_0 := Aside0.mk hl234_0; clear hi234_0 hl234_0; replace p234 := eq_true p234; replace q234 := eq_true q234) | (go_at_call 107; (with_reducible refine (slices_Compare_int_int.calls k2 _ _ (rd_L1 l0_0 (ji15)) _ _ (rd_L1 l0_0 x18_2) t235 _ ?side1 ?side2 ?side3 ?side4 A18.out).mono ?_); (case side1 => exact zC (Kd.C_below HR234_0.out HB.out)); (case side2 => exact HC234_0.out); (case side3 => exact zC (Kd.C_below HR232_0.out HB.out)); (case side4 => exact HC232_0.out); rintro e w' ⟨rfl, ⟨nd, rfl⟩⟩))
                       go_roundg k2
                       case measure => have := HJ1.out; have := HK2.out; omega
                       case rel => exact ⟨(wrap64 (x18_2 + 1)), (by first | rfl | (simp; done) | (simp [*]; done)), H', ⟨by have := HJ1.out; have := HK2.out; omega⟩, ⟨zK BK230.out⟩, ⟨zB⟩⟩
                   · rw [if_neg c17] at H
                     exact absurd H (by simp)
                 · rw [if_neg c16] at H
                   exact absurd H (by simp)
               · rw [if_neg c14] at H
                 have c14b0 : decide (0 < x18_2) = false := decide_eq_false c14
                 clear c14
                 have H' := Aside0.mk H
                 clear H
                 have p232 : 0 ≤ (x18_2 : Int) := of_decide_eq_true zA
                 have q232 : x18_2 < (l0_0.length : Int) := of_decide_eq_true zA
                 obtain ⟨ad232, A232_0, c232_0, e232, hx232_0, hl232_0, hi232_0⟩ := at_L1 HR0_0.out x18_2 p232 q232
                 cases e232
                 (try replace hx232_0 := (HB.out.cell (World.block_lt_of_cell? w _ hx232_0)).trans hx232_0)
                 have HR232_0 := Aside0.mk hi232_0
                 have HC232_0 := Aside0.mk hl232_0
                 clear hi232_0 hl232_0
                 replace p232 := eq_true p232
                 replace q232 := eq_true q232
                 go_wp2_with (first | ((with_reducible refine gate_callee (f := 121) rfl ?_); refine zc 24 Try.func121 #[.slice A232_0 (rd_L1 l0_0 x18_2).length c232_0] ?_; (with_reducible refine (impl_isState.calls _ _ (rd_L1 l0_0 x18_2) true _ ?side1 ?side2 A12.out).mono ?_); (case side1 => exact zC (Kd.C_below HR232_0.out HB.out)); (case side2 => exact HC232_0.out); rintro e w24 ⟨rfl, hb⟩; refine ⟨_, rfl, ?_⟩; replace BK230 := zM (blk_below (g := gb230) (o := .cells #[.slice (some ad232) l0_0.length c0_0, .slice A0_1 l0_1.length c0_1] 30 (0, 0)) (zK BK230.out) hb); replace HB := zM (below_step zB hb); (try clear hb); (try clear hb2); (try clear hk); (try clear hi)))
                 go_roundg k2
                 case measure => have := HJ1.out; have := HK2.out; omega
                 case rel => exact ⟨(wrap64 (x18_2 + 1)), (by first | rfl | (simp; done) | (simp [*]; done)), H', ⟨by have := HJ1.out; have := HK2.out; omega⟩, ⟨zK BK230.out⟩, ⟨zB⟩⟩
             · replace c13 := Bool.eq_false_iff.mpr c13
               subst c13
               have H1 : (some false) = some r := by rw [if_neg (show ¬ (false = true) by decide)] at H; exact H
               clear H
               have H := H1
               clear H1
               obtain rfl := Option.some.inj H
               have p232 : 0 ≤ (x18_2 : Int) := of_decide_eq_true zA
               have q232 : x18_2 < (l0_0.length : Int) := of_decide_eq_true zA
               obtain ⟨ad232, A232_0, c232_0, e232, hx232_0, hl232_0, hi232_0⟩ := at_L1 HR0_0.out x18_2 p232 q232
               cases e232
               (try replace hx232_0 := (HB.out.cell (World.block_lt_of_cell? w _ hx232_0)).trans hx232_0)
               have HR232_0 := Aside0.mk hi232_0
               have HC232_0 := Aside0.mk hl232_0
               clear hi232_0 hl232_0
               replace p232 := eq_true p232
               replace q232 := eq_true q232
               go_wp2_with (first | ((with_reducible refine gate_callee (f := 121) rfl ?_); refine zc 24 Try.func121 #[.slice A232_0 (rd_L1 l0_0 x18_2).length c232_0] ?_; (with_reducible refine (impl_isState.calls _ _ (rd_L1 l0_0 x18_2) false _ ?side1 ?side2 A12.out).mono ?_); (case side1 => exact zC (Kd.C_below HR232_0.out HB.out)); (case side2 => exact HC232_0.out); rintro e w25 ⟨rfl, hb⟩; refine ⟨_, rfl, ?_⟩; replace BK230 := zM (blk_below (g := gb230) (o := .cells #[.slice (some ad232) l0_0.length c0_0, .slice A0_1 l0_1.length c0_1] 30 (0, 0)) (zK BK230.out) hb); replace HB := zM (below_step zB hb); (try clear hb); (try clear hb2); (try clear hk); (try clear hi)))
               go_ret
               exact ⟨by first | rfl | (simp [errW_none, errW_some] <;> rfl) | (simp [*, errW_none, errW_some] <;> rfl), zB⟩
           · rw [if_neg c11] at H
             exact absurd H (by simp)
         · rw [if_neg c10] at H
           exact absurd H (by simp)
       · rw [if_neg c9] at H
         have c9b0 : decide (x18_2 < (l0_0.length : Int)) = false := decide_eq_false c9
         clear c9
         replace H := Option.bind_eq_some_iff.mp H
         obtain ⟨t231, A260, H⟩ := H
         have A26 := Aside0.mk A260
         clear A260
         obtain rfl := Option.some.inj H
         have hcz27_0 := zy BK230 0
         have hcz27_1 := zy BK230 1
         have hfz27_0 := blk_frozen BK230.out 0
         have hfz27_1 := blk_frozen BK230.out 1
         go_wp2_with (first | ((with_reducible refine gate_callee (f := 122) rfl ?_); refine zc 47 Try.func122 #[.slice A0_1 l0_1.length c0_1, .int .i64 (l0_0.length : Int)] ?_; (with_reducible refine (impl_isPairs.calls k2 _ _ l0_1 (l0_0.length : Int) t231 _ ?side1 ?side2 A26.out).mono ?_); (case side1 => exact zC (Kd.C_below HR0_1.out HB.out)); (case side2 => exact HC0_1.out); rintro e w28 ⟨rfl, hb⟩; refine ⟨_, rfl, ?_⟩; replace BK230 := zM (blk_below (g := gb230) (o := .cells #[.slice A0_0 l0_0.length c0_0, .slice A0_1 l0_1.length c0_1] 30 (0, 0)) (zK BK230.out) hb); replace HB := zM (below_step zB hb); (try clear hb); (try clear hb2); (try clear hk); (try clear hi)))
         go_ret
         exact ⟨by first | rfl | (simp [errW_none, errW_some] <;> rfl) | (simp [*, errW_none, errW_some] <;> rfl), zB⟩

end Go.Proofs.Ytmhoemdclnlgaaa.P
namespace Go.Proofs.Ytmhoemdclnlgaaa.P
open Go.RowKit Go.Proofs.YtmhoemdclnlgaaaW.PrintWords Go.Proofs.YtmhoemdclnlgaaaW.PrintLast Go.Proofs.YtmhoemdclnlgaaaW.PrintMore
attribute [local go_sem] max2_int min2_int max_two min_two max_three min_three max_four min_four   -- for this text's walks alone
set_option linter.unusedVariables false
set_option linter.unusedSimpArgs false

/-! ### impl_between: function 96 -/
def impl_between.f (a0 : Int) (a1 : Int) (a2 : Int) : Option (Bool) := if a0 ≥ a1 then (some (decide (a0 ≤ a2))) else (some false)
set_option maxHeartbeats 8000000 in
set_option maxRecDepth 100000 in
theorem impl_between.calls (a0 : Int) (a1 : Int) (a2 : Int) (r : Bool) (w : World) (h : impl_between.f a0 a1 a2 = some r) :
 Calls Try.prog 96 #[.int .i64 a0, .int .i64 a1, .int .i64 a2] w fun e w' => e = .returned (.bool r) ∧ Drawn0 w w' := by
 have H : (if a0 ≥ a1 then (some (decide (a0 ≤ a2))) else (some false)) = some r := h
 clear h
 by_cases c4 : a0 ≥ a1
 · rw [if_pos c4] at H
   have c4b0 : decide (a1 ≤ a0) = true := decide_eq_true c4
   clear c4
   obtain rfl := Option.some.inj H
   go_enter Try.func96, Try.ntmps96
   go_wp2
   go_ret
   exact ⟨by first | rfl | (simp; done) | (simp [*]; done), by repeat (first | exact Drawn0.refl _ | apply Drawn0.step)⟩
 · rw [if_neg c4] at H
   have c4b0 : decide (a1 ≤ a0) = false := decide_eq_false c4
   clear c4
   obtain rfl := Option.some.inj H
   go_enter Try.func96, Try.ntmps96
   go_wp2
   go_ret
   exact ⟨by first | rfl | (simp; done) | (simp [*]; done), by repeat (first | exact Drawn0.refl _ | apply Drawn0.step)⟩

end Go.Proofs.Ytmhoemdclnlgaaa.P
namespace Go.Proofs
open Go.Shelf
def Try.lays215_ren : Go.Shelf.Ren := ⟨fun | 215 => 159 | n => n, fun | 3 => 3 | 4 => 4 | n => n, fun | n => n⟩
theorem Try.lays215 : Go.Proofs.Lays.n215 Try.prog Try.lays215_ren := {
  mixed := by kernel_rfl
  f215 := Try.func159.trans (congrArg some (by kernel_rfl))
  t3 := Try.underlying3
  a3 := Try.isAgg3
  z3 := Try.sizeOf3
  v3 := Try.zeroValue3
  t4 := Try.underlying4
  a4 := Try.isAgg4
  z4 := Try.sizeOf4
  v4 := Try.zeroValue4 }
open Go.RowKit in
/-- cmp.isNaN at int: 'x != x': false. (LAID: no walk: one application.) -/
theorem Try.cmp_isNaN_int (x : Int) (w : World) :
    Calls Try.prog 159 #[.int .i64 x] w fun e w' => e = .returned (.bool false) ∧ w' = w := Any.cmp_isNaN_int Try.lays215 x w
def Try.lays122_ren : Go.Shelf.Ren := ⟨fun | 122 => 116 | 215 => 159 | n => n, fun | 3 => 3 | 4 => 4 | n => n, fun | n => n⟩
theorem Try.lays122 : Go.Proofs.Lays.n122 Try.prog Try.lays122_ren := {
  mixed := by kernel_rfl
  f122 := Try.func116.trans (congrArg some (by kernel_rfl))
  f215 := Try.func159.trans (congrArg some (by kernel_rfl))
  t3 := Try.underlying3
  a3 := Try.isAgg3
  z3 := Try.sizeOf3
  v3 := Try.zeroValue3
  t4 := Try.underlying4
  a4 := Try.isAgg4
  z4 := Try.sizeOf4
  v4 := Try.zeroValue4 }
open Go.RowKit in
/-- cmp.Compare at int: "Compare returns -1 if x is less than y, 0 if x equals y, +1 if x is greater than y.": IT RETURNS 'Lib.compareInt x y'; the world is as it was. (LAID: no walk: one application.) -/
theorem Try.cmp_Compare_int (x y : Int) (w : World) :
    Calls Try.prog 116 #[.int .i64 x, .int .i64 y] w fun e w' => e = .returned (.int .i64 (Lib.compareInt x y)) ∧ w' = w := Any.cmp_Compare_int Try.lays122 x y w
def Try.lays189_ren : Go.Shelf.Ren := ⟨fun | 189 => 124 | 125 => 136 | 257 => 163 | 128 => 176 | 129 => 177 | 294 => 208 | 295 => 209 | 296 => 210 | 297 => 211 | 298 => 212 | 299 => 213 | 216 => 214 | 300 => 215 | 301 => 216 | 328 => 235 | 329 => 219 | 330 => 220 | 331 => 236 | 332 => 237 | 215 => 159 | 343 => 241 | n => n, fun | 28 => 27 | 3 => 3 | 46 => 114 | 0 => 0 | 51 => 146 | 53 => 148 | 4 => 4 | 183 => 140 | 182 => 139 | 131 => 53 | 5 => 5 | 9 => 9 | 218 => 176 | 222 => 180 | 228 => 190 | 229 => 191 | n => n, fun | n => n⟩
theorem Try.lays189 : Go.Proofs.Lays.n189 Try.prog Try.lays189_ren := {
  mixed := by kernel_rfl
  f125 := Try.func136.trans (congrArg some (by kernel_rfl))
  f128 := Try.func176.trans (congrArg some (by kernel_rfl))
  f129 := Try.func177.trans (congrArg some (by kernel_rfl))
  f189 := Try.func124.trans (congrArg some (by kernel_rfl))
  f215 := Try.func159.trans (congrArg some (by kernel_rfl))
  f216 := Try.func214.trans (congrArg some (by kernel_rfl))
  f257 := Try.func163.trans (congrArg some (by kernel_rfl))
  f294 := Try.func208.trans (congrArg some (by kernel_rfl))
  f295 := Try.func209.trans (congrArg some (by kernel_rfl))
  f296 := Try.func210.trans (congrArg some (by kernel_rfl))
  f297 := Try.func211.trans (congrArg some (by kernel_rfl))
  f298 := Try.func212.trans (congrArg some (by kernel_rfl))
  f299 := Try.func213.trans (congrArg some (by kernel_rfl))
  f300 := Try.func215.trans (congrArg some (by kernel_rfl))
  f301 := Try.func216.trans (congrArg some (by kernel_rfl))
  f328 := Try.func235.trans (congrArg some (by kernel_rfl))
  f329 := Try.func219.trans (congrArg some (by kernel_rfl))
  f330 := Try.func220.trans (congrArg some (by kernel_rfl))
  f331 := Try.func236.trans (congrArg some (by kernel_rfl))
  f332 := Try.func237.trans (congrArg some (by kernel_rfl))
  f343 := Try.func241.trans (congrArg some (by kernel_rfl))
  t0 := Try.underlying0
  a0 := Try.isAgg0
  z0 := Try.sizeOf0
  v0 := Try.zeroValue0
  t3 := Try.underlying3
  a3 := Try.isAgg3
  z3 := Try.sizeOf3
  v3 := Try.zeroValue3
  t4 := Try.underlying4
  a4 := Try.isAgg4
  z4 := Try.sizeOf4
  v4 := Try.zeroValue4
  t5 := Try.underlying5
  a5 := Try.isAgg5
  z5 := Try.sizeOf5
  v5 := Try.zeroValue5
  t9 := Try.underlying9
  a9 := Try.isAgg9
  z9 := Try.sizeOf9
  v9 := Try.zeroValue9
  t28 := Try.underlying27
  a28 := Try.isAgg27
  z28 := Try.sizeOf27
  v28 := Try.zeroValue27
  t46 := Try.underlying114
  a46 := Try.isAgg114
  z46 := Try.sizeOf114
  v46 := Try.zeroValue114
  t51 := Try.underlying146
  a51 := Try.isAgg146
  z51 := Try.sizeOf146
  v51 := Try.zeroValue146
  t53 := Try.underlying148
  a53 := Try.isAgg148
  z53 := Try.sizeOf148
  v53 := Try.zeroValue148
  t131 := Try.underlying53
  a131 := Try.isAgg53
  z131 := Try.sizeOf53
  v131 := Try.zeroValue53
  t182 := Try.underlying139
  a182 := Try.isAgg139
  z182 := Try.sizeOf139
  v182 := Try.zeroValue139
  t183 := Try.underlying140
  a183 := Try.isAgg140
  z183 := Try.sizeOf140
  v183 := Try.zeroValue140
  t218 := Try.underlying176
  a218 := Try.isAgg176
  z218 := Try.sizeOf176
  v218 := Try.zeroValue176
  t222 := Try.underlying180
  a222 := Try.isAgg180
  z222 := Try.sizeOf180
  v222 := Try.zeroValue180
  t228 := Try.underlying190
  a228 := Try.isAgg190
  z228 := Try.sizeOf190
  v228 := Try.zeroValue190
  t229 := Try.underlying191
  a229 := Try.isAgg191
  z229 := Try.sizeOf191
  v229 := Try.zeroValue191 }
open Go.Sort Go.RowKit in
theorem Try.slices_Sort_int (blk off cap : Nat) (zs : List Int) (w : World) (hH : Holds (Value.int .i64) w blk off zs.toArray) (hblk : blk < w.heap.size) (hsz : zs.length < 4611686018427387904) :
    Calls Try.prog 124 #[.slice (some ⟨blk, off, none⟩) zs.length cap] w fun e w' =>
      e = .returned (.tuple #[]) ∧ ∃ n os, w' = grow (putRow (Value.int .i64) (Sort.ahead w n) blk off (zs.mergeSort fun x y => decide (x ≤ y)).toArray) os := Any.slices_Sort_int Try.lays189 blk off cap zs w hH hblk hsz
def Try.lays212_ren : Go.Shelf.Ren := ⟨fun | 212 => 162 | 263 => 206 | 264 => 207 | n => n, fun | 46 => 114 | 51 => 146 | 146 => 167 | 53 => 148 | 148 => 169 | n => n, fun | n => n⟩
theorem Try.lays212 : Go.Proofs.Lays.n212 Try.prog Try.lays212_ren := {
  mixed := by kernel_rfl
  f212 := Try.func162.trans (congrArg some (by kernel_rfl))
  f263 := Try.func206.trans (congrArg some (by kernel_rfl))
  f264 := Try.func207.trans (congrArg some (by kernel_rfl))
  t46 := Try.underlying114
  a46 := Try.isAgg114
  z46 := Try.sizeOf114
  v46 := Try.zeroValue114
  t51 := Try.underlying146
  a51 := Try.isAgg146
  z51 := Try.sizeOf146
  v51 := Try.zeroValue146
  t53 := Try.underlying148
  a53 := Try.isAgg148
  z53 := Try.sizeOf148
  v53 := Try.zeroValue148
  t146 := Try.underlying167
  a146 := Try.isAgg167
  z146 := Try.sizeOf167
  v146 := Try.zeroValue167
  t148 := Try.underlying169
  a148 := Try.isAgg169
  z148 := Try.sizeOf169
  v148 := Try.zeroValue169 }
open Go.RowKit Go.Lib in
/-- math/bits.Mul: "Mul returns the full-width product of x and y": on a machine of 64 bits: Mul64's. (LAID: no walk: one application.) -/
theorem Try.bits_Mul (x y : Nat) (hx : x < 18446744073709551616) (hy : y < 18446744073709551616) (w : World) :
    Calls Try.prog 162 #[.int .u64 x, .int .u64 y] w fun e w' => e = .returned (.tuple #[.int .u64 ((x * y / 18446744073709551616 : Nat) : Int), .int .u64 ((x * y % 18446744073709551616 : Nat) : Int)]) ∧ w' = w := Any.bits_Mul Try.lays212 x y hx hy w
open Go.RowKit Go.Sort in
/-- .. and plain. (LAID: no walk: one application.) -/
theorem Try.slices_Sort_int_none (p : Option Addr) (cap : Nat) (w : World) :
    Calls Try.prog 124 #[.slice p 0 cap] w fun e w' => e = .returned (.tuple #[]) ∧ w' = w := Any.slices_Sort_int_none Try.lays189 p cap w
end Go.Proofs
namespace Go.Proofs.Ytmhoemdclnlgaaa.P
open Go.RowKit Go.Proofs.YtmhoemdclnlgaaaW.PrintWords Go.Proofs.YtmhoemdclnlgaaaW.PrintLast Go.Proofs.YtmhoemdclnlgaaaW.PrintMore
set_option linter.unusedVariables false
set_option linter.unusedSimpArgs false
set_option maxRecDepth 100000 in
theorem rep_cells {W : World} {base g n cap m : Nat} {x : Int} (HO : Kd.R (Kd.int .i64) 3 W base (fun _ => True) (.slice (some ⟨g, 0, none⟩) n cap) (List.replicate m x ++ List.replicate (n - m) 0)) (hm : m ≤ n) (ty : TypeId) (sCap dCap : Nat) :
    (Builtin.copy_ #[27, 27] ty #[.slice (some ⟨g, m, none⟩) (n - m) dCap, .slice (some ⟨g, 0, none⟩) m sCap]).run Try.prog W = .ok (.int .i64 ((min m (n - m) : Nat) : Int)) (W.setCells g m (List.replicate (min m (n - m)) (Value.int .i64 x))) ∧
    Kd.R (Kd.int .i64) 3 (W.setCells g m (List.replicate (min m (n - m)) (Value.int .i64 x))) base (fun _ => True) (.slice (some ⟨g, 0, none⟩) n cap) (List.replicate (m + min m (n - m)) x ++ List.replicate (n - (m + min m (n - m))) 0) ∧
    W.grownBy (W.setCells g m (List.replicate (min m (n - m)) (Value.int .i64 x))) (some g) := by
  have hown := Kd.own_of_R (enc := Value.int .i64) HO
  have hln : (List.replicate m x ++ List.replicate (n - m) (0 : Int)).length = n := by rw [List.length_append, List.length_replicate, List.length_replicate]; omega
  rcases hown.2 with ⟨h0, _⟩ | ⟨g', cap', cur, hv, hbase, hh, h1, h2, h3, h4⟩
  · cases h0
  injection hv with e1 e2 e3
  injection e1 with e1
  injection e1 with e1 _
  subst e1; subst e3
  rw [hln] at h1 h4
  rw [Nat.mul_one] at h3 h4
  have hget : ∀ j, j < m → W.cell? ⟨g, j, none⟩ = some (Value.int .i64 x) := fun j hj => by
    have e5 : (cur.toList.take n)[j]? = some (Value.int .i64 x) := by
      rw [h4]
      simp [encs, List.getElem?_append_left, hj]
    rw [List.getElem?_take_of_lt (by omega), Array.getElem?_toList] at e5
    simp [World.cell?, hh, e5]
  have hr := run_copy_cells (P := Try.prog) W 27 27 ty 3 g m (n - m) dCap ⟨g, 0, none⟩ m sCap (List.replicate (min m (n - m)) (Value.int .i64 x)) Try.underlying27 (by kernel_rfl) (List.length_replicate ..)
    (fun j v hj => by
      rw [List.getElem?_replicate] at hj
      by_cases c : j < min m (n - m)
      · rw [if_pos c] at hj
        rw [← hj, add_plain]
        exact hget j (by omega)
      · rw [if_neg c] at hj; cases hj)
    (fun j hj => by
      rw [List.length_replicate] at hj
      have : m + j < cur.size := by omega
      simp [World.cell?, hh, this])
    (fun j _ => blk_frozen hh _) (fun v hv => by rw [(List.mem_replicate.1 hv).2]; rfl)
  obtain ⟨cur', k1, k2, k3⟩ := setCells_row (List.replicate (min m (n - m)) (Value.int .i64 x)) m W cur hh (by rw [List.length_replicate]; omega)
  obtain ⟨s1, s2, s3, s4⟩ := setCells_same g (List.replicate (min m (n - m)) (Value.int .i64 x)) m W
  refine ⟨by rw [hr, List.length_replicate]; rfl, Kd.R_of_own (enc := Value.int .i64) ?_ (fun _ _ => trivial), ⟨s1, s2, s3, by rw [s4]; exact Nat.le_refl _, fun k _ hk => setCells_far _ _ k (fun he => hk (by rw [he]))⟩⟩
  have hln2 : (List.replicate (m + min m (n - m)) x ++ List.replicate (n - (m + min m (n - m))) (0 : Int)).length = n := by rw [List.length_append, List.length_replicate, List.length_replicate]; omega
  rw [hln2]
  refine ⟨by rw [encs_length, hln2, Nat.mul_one], .inr ⟨g, cap, cur', rfl, hbase, k1, h1, h2, by rw [k2, h3, Nat.mul_one], ?_⟩⟩
  rw [k3, Nat.mul_one, List.length_replicate]
  have ht : cur.toList.take n = List.replicate m (Value.int .i64 x) ++ List.replicate (n - m) (Value.int .i64 0) := by rw [h4]; simp [encs]
  have hcl : cur.toList.length = cap := by rw [Array.length_toList]; exact h3
  apply List.ext_getElem?
  intro j
  have hj0 : ∀ j, j < n → cur.toList[j]? = (List.replicate m (Value.int .i64 x) ++ List.replicate (n - m) (Value.int .i64 0))[j]? := fun j hj => by rw [← ht, List.getElem?_take_of_lt hj]
  by_cases cj : j < n
  · rw [List.getElem?_take_of_lt cj, List.append_assoc]
    by_cases c1 : j < m
    · rw [List.getElem?_append_left (by rw [List.length_take]; omega), List.getElem?_take_of_lt c1, hj0 j cj]
      simp [encs, List.getElem?_append, List.getElem?_replicate, c1, show j < m + min m (n - m) by omega]
    · rw [List.getElem?_append_right (by rw [List.length_take]; omega), List.length_take, show min m cur.toList.length = m by omega]
      by_cases c2 : j < m + min m (n - m)
      · rw [List.getElem?_append_left (by rw [List.length_replicate]; omega)]
        simp [encs, List.getElem?_append, List.getElem?_replicate, c2, show j - m < min m (n - m) by omega]
      · rw [List.getElem?_append_right (by rw [List.length_replicate]; omega), List.length_replicate, List.getElem?_drop, show m + min m (n - m) + (j - m - min m (n - m)) = j by omega, hj0 j cj]
        simp [encs, List.getElem?_append, List.getElem?_replicate, c1, c2, show j - m < n - m by omega]
        omega
  · rw [List.getElem?_take_eq_none (by omega), List.getElem?_eq_none (by rw [encs_length, hln2]; omega)]
set_option maxRecDepth 100000 in
set_option maxHeartbeats 2000000 in
theorem rep_calls (A0 : Option Addr) (c0 : Nat) (x : Int) (n : Nat) (hn : n ≤ 1048576) (w : World) (hr0 : Kd.C (Kd.int .i64) w A0 1 [x]) (hc0 : 1 ≤ c0) :
    Calls Try.prog 123 #[.slice A0 1 c0, .int .i64 (n : Int)] w fun e w' => ∃ v0_ : Value, e = .returned (v0_) ∧ Kd.R (Kd.int .i64) 3 w' w.heap.size (fun _ => True) v0_ (List.replicate n x) ∧ Below w.heap.size w w' := by
  have HR := Aside0.mk hr0
  have HC := Aside0.mk hc0
  clear hr0 hc0
  have hneg : decide ((n : Int) < 0) = false := decide_eq_false (by omega)
  have hgt : decide ((n : Int) > 9223372036854775807) = false := decide_eq_false (by omega)
  have hgt2 : decide (9223372036854775807 < (n : Int)) = false := decide_eq_false (by omega)
  have HN := Aside0.mk hn
  have hinf : (Try.prog.info? 3).map (·.size) = some 1 := by kernel_rfl
  have HB := zM (Below.refl w.heap.size w)
  have hmul := Try.bits_Mul 1 n (by decide) (by omega) w
  rw [Nat.one_mul, Nat.div_eq_of_lt (by omega), Nat.mod_eq_of_lt (by omega), show ((1 : Nat) : Int) = 1 from rfl, show ((0 : Nat) : Int) = 0 from rfl] at hmul
  have HM := Aside0.mk hmul
  clear hmul
  go_enter Try.func123, Try.ntmps123
  go_wp2_with (first
    | (go_at_call 162; refine HM.out.mono ?_; rintro e w' ⟨rfl, hw⟩; replace hw := hw.symm; subst hw)
    | ((with_reducible refine gate_dst (N := 30) rfl ?_); refine Kd.R_make (Kd.int .i64) _ 3 rfl (N := 30) rfl 27 _ _ rfl (n : Int) rfl rfl Try.underlying27 (.int .i64 0) 8 info3 rfl (by decide) (by omega) 0 (ok := fun _ => True) (okp := fun _ => True) rfl (fun _ hk => hk) trivial (by omega) (by rw [Int.toNat_natCast]; have := HN.out; omega) (Below.refl _ _) (Nat.le_refl _) ?_; intro v w8 ho hb hg_ hnew_; clear hg_ hnew_; rw [Int.toNat_natCast] at ho; have HO := zM (Kd.R_lower ho (below_size HB.out)); have HR1 := zM (Kd.C_below HR.out hb); replace HB := zM (below_step HB.out hb); clear ho hb)
    | ((with_reducible refine gate_builtin (b := .copy) (xs := #[.tmp 31, .tmp 32]) rfl ?_); refine Kd.R_copy (enc := Value.int .i64) (0 : Int) (w0 := w) w.heap.size rfl (.tmp 31) (.tmp 32) 27 27 3 rfl Try.underlying27 hinf v (List.replicate n 0) [x] A0 1 c0 (fun _ => True) rfl rfl HO.out HR1.out HB.out (below_size HB.out) ?_; intro w9 ho hb hg_; replace HO := zM ho; replace HB := zM hb; clear ho hb hg_ HR1))
  have hlen : (List.replicate n (0 : Int)).length = n := List.length_replicate ..
  rw [hlen] at HO
  (try simp only [hlen])
  have hrow : List.take (min 1 n) [x] ++ List.drop (min 1 n) (List.replicate n (0 : Int)) = List.replicate (min 1 n) x ++ List.replicate (n - min 1 n) 0 := by
    rw [List.drop_replicate]
    congr 1
    rcases Nat.eq_zero_or_pos n with h | h
    · subst h; rfl
    · rw [show min 1 n = 1 by omega]; rfl
  rw [hrow] at HO
  have HO2 := Aside0.mk (show Kd.R (Kd.int .i64) 3 w9 w.heap.size (fun _ => True) v (List.replicate (min 1 n) x ++ List.replicate (n - min 1 n) 0) from HO.out)
  clear HO hrow hlen
  obtain ⟨Av, cv, ev⟩ := Kd.R_slice HO2.out
  rw [show (List.replicate (min 1 n) x ++ List.replicate (n - min 1 n) (0 : Int)).length = n by rw [List.length_append, List.length_replicate, List.length_replicate]; exact Nat.add_sub_of_le (Nat.min_le_right 1 n)] at ev
  subst ev
  go_loopg [8] (n + 1) (fun kq v8 w' => ∃ m : Nat, v8 = .int .i64 (m : Int) ∧ Aside0 (m ≤ n) ∧ Aside0 (m = 0 → n = 0) ∧ Aside0 (n - m < kq) ∧ Aside0 (Kd.R (Kd.int .i64) 3 w' w.heap.size (fun _ => True) (.slice Av n cv) (List.replicate m x ++ List.replicate (n - m) 0)) ∧ Aside0 (Below w.heap.size w w'))
  case atStart => exact ⟨min 1 n, rfl, ⟨by omega⟩, ⟨by omega⟩, ⟨by omega⟩, HO2, HB⟩
  case round =>
    clear HO2 HB
    obtain ⟨m, rfl, HM1, HM0, HK1, HO, HB⟩ := hrel
    by_cases c1 : m < n
    · have hm1 := HM1.out
      obtain ⟨g, cap, eg, gb, gl, HG⟩ := Kd.R_form HO.out (by rw [List.length_append, List.length_replicate, List.length_replicate]; omega)
      injection eg with eA eN ec
      clear eN
      subst eA; subst ec
      have c1b : decide ((m : Int) < (n : Int)) = true := decide_eq_true (by omega)
      have c1c : decide (m < n) = true := decide_eq_true c1
      have p1 : (0 : Int) ≤ (m : Int) := by omega
      have q1 : (m : Int) ≤ (n : Int) := by omega
      have hcap : n ≤ cv := (Kd.R_reads' HO.out).2.1
      have HCAP := Aside0.mk hcap
      have GB := Aside0.mk gb
      have hcm : (m ≤ cv) = True := eq_true (by omega)
      have hce : (cv = m) = False := eq_false (by omega)
      replace p1 := eq_true p1
      replace q1 := eq_true q1
      clear hm1 c1 hcap hn gb gl HG hgt hgt2 hneg hinf
      go_upto_region 9 with (fail)
      (try simp only [Act.put, List.setIfInBounds_toArray, List.set_cons_zero, List.set_cons_succ])
      refine zs (n := 10) (fun _ => True) trivial (fun hHeld => ?_)
      have HO1 := zM (Kd.R_drew HO.out)
      have HB1 := zM (below_drew1 HB.out)
      clear HO HB
      generalize wr.drew = w10 at HO1 HB1 hHeld ⊢
      obtain ⟨C1, C2, C3⟩ := rep_cells HO1.out HM1.out 3 cv (cv - m)
      have CR := Aside0.mk C1
      have CO := Aside0.mk C2
      have CG := Aside0.mk C3
      clear C1 C2 C3
      refine zq 0 38 ?_
      refine zq 1 39 ?_
      refine zq 2 40 ?_
      refine zq 3 41 ?_
      refine zq 4 42 ?_
      refine zq 5 43 ?_
      refine zq 6 44 ?_
      refine one_ (i := 7) (N := some 45) #[true, true, true, true, true, true, true, true, false, false] rfl rfl (by kernel_rfl) (by decide) (fun K hK => ?_)
      refine value_ (w1 := w10.setCells g m (List.replicate (min m (n - m)) (Value.int .i64 x))) (v := .int .i64 ((min m (n - m) : Nat) : Int)) (by rfl) rfl ?_ ?_
      · go_simp
        rw [CR.out]
        rfl
      refine hK.out _ _ trivial (fun hHeld => ?_)
      clear hK K
      refine zn 45 ?_
      have hw1 : wrap64 ((m : Int) + ((min m (n - m) : Nat) : Int)) = ((m + min m (n - m) : Nat) : Int) := by
        have := HN.out
        have := HM1.out
        have := Nat.min_le_left m (n - m)
        unfold wrap64
        omega
      have HW := Aside0.mk hw1
      clear hw1
      refine zq 8 46 ?_
      refine zq 9 8 ?_
      refine zx ?_
      have hlt := of_decide_eq_true c1c
      have hmp : 0 < m := by
        rcases Nat.eq_zero_or_pos m with h | h
        · have := HM0.out h; omega
        · exact h
      have hq0 : 0 < min m (n - m) := by rw [Nat.lt_min]; omega
      have hq1 : m + min m (n - m) ≤ n := by have := Nat.min_le_right m (n - m); omega
      have HB2 := Aside0.mk (HB1.out.grown CG.out HB1.out.size (fun k hk => by injection hk with hk; have := GB.out; omega))
      (try go_wp2)
      go_roundg (n - m)
      case measure => exact HK1.out
      case rel => exact ⟨m + min m (n - m), by first | rfl | exact congrArg (Value.int .i64) HW.out | (rw [HW.out]; done), ⟨hq1⟩, ⟨fun h => by omega⟩, ⟨by omega⟩, CO, HB2⟩
    · have hm1 := HM1.out
      have e1 : m = n := by omega
      have c1b : decide ((m : Int) < (n : Int)) = false := decide_eq_false (by omega)
      have c1c : decide (m < n) = false := decide_eq_false c1
      have HE := Aside0.mk e1
      clear e1 c1 hm1 hn hgt hgt2 hneg hinf
      go_wp2
      go_ret
      refine ⟨_, rfl, ?_, HB.out⟩
      have e2 : List.replicate m x ++ List.replicate (n - m) 0 = List.replicate n x := by rw [HE.out, Nat.sub_self]; simp
      rw [← e2]
      exact HO.out
def slices_Repeat_int_int.f (l : List Int) (n : Int) : Option (List Int) := if l.length = 1 ∧ 0 ≤ n ∧ n ≤ 1048576 then some (List.replicate n.toNat (l.headD 0)) else none
theorem slices_Repeat_int_int.calls (A0 : Option Addr) (c0 : Nat) (l0 : List Int) (a1 : Int) (r : List Int) (w : World) (hr0 : Kd.C (Kd.int .i64) w A0 l0.length l0) (hc0 : l0.length ≤ c0) (h : slices_Repeat_int_int.f l0 a1 = some r) :
    Calls Try.prog 123 #[.slice A0 l0.length c0, .int .i64 a1] w fun e w' => ∃ v0_ : Value, e = .returned (v0_) ∧ Kd.R (Kd.int .i64) 3 w' w.heap.size (fun _ => True) v0_ r ∧ Below w.heap.size w w' := by
  unfold slices_Repeat_int_int.f at h
  by_cases c : l0.length = 1 ∧ 0 ≤ a1 ∧ a1 ≤ 1048576
  · rw [if_pos c] at h
    obtain rfl := Option.some.inj h
    obtain ⟨c1, c2, c3⟩ := c
    obtain ⟨n, rfl⟩ := Int.eq_ofNat_of_zero_le c2
    cases l0 with
    | nil => simp at c1
    | cons x t =>
      have ht : t = [] := by cases t with
        | nil => rfl
        | cons y s => simp at c1
      subst ht
      rw [Int.toNat_natCast]
      exact rep_calls A0 c0 x n (by omega) w hr0 hc0
  · rw [if_neg c] at h
    cases h
end Go.Proofs.Ytmhoemdclnlgaaa.P
namespace Go.Proofs.Ytmhoemdclnlgaaa.P
open Go.RowKit Go.Proofs.YtmhoemdclnlgaaaW.PrintWords Go.Proofs.YtmhoemdclnlgaaaW.PrintLast Go.Proofs.YtmhoemdclnlgaaaW.PrintMore
set_option linter.unusedVariables false
set_option linter.unusedSimpArgs false

def sortL (l : List Int) : List Int := l.mergeSort fun x y => decide (x ≤ y)
def slices_Sort_int_int.f (l : List Int) : Option (List Int) := if l.length < 4611686018427387904 then some (sortL l) else none
theorem sortL_len (l : List Int) : (sortL l).length = l.length := List.length_mergeSort l
theorem slices_Sort_int_int.calls (P0_ : Nat → Prop) (u9000_ : Value) (l0 r : List Int) (w0 w : World) (hB : Below w0.heap.size w0 w) (ho0 : Kd.R (Kd.int .i64) 3 w w0.heap.size P0_ u9000_ l0) (h : slices_Sort_int_int.f l0 = some r) :
    Calls Try.prog 124 #[u9000_] w fun e w' => e = .returned (.tuple #[]) ∧ Kd.R (Kd.int .i64) 3 w' w0.heap.size (fun k_ => (P0_ k_ ∨ w.heap.size ≤ k_)) u9000_ r ∧ Below w0.heap.size w0 w' ∧ Kept w w' (fun k_ => P0_ k_) := by
  unfold slices_Sort_int_int.f at h
  by_cases hl : l0.length < 4611686018427387904
  · rw [if_pos hl] at h
    obtain rfl := Option.some.inj h
    have hown := Kd.own_of_R (enc := Value.int .i64) ho0
    rcases hown.2 with ⟨hnil, hz⟩ | ⟨g, cap, cur, rfl, hbase, hb, h1, h2, h3, h4⟩
    · have h0 : l0 = [] := by
        cases l0 with
        | nil => rfl
        | cons x t => simp at hz
      subst h0
      subst hnil
      refine (Try.slices_Sort_int_none none 0 w).mono ?_
      rintro e w' ⟨rfl, rfl⟩
      refine ⟨rfl, ?_, hB, Kept.refl _ _⟩
      rw [show sortL [] = [] from by simp [sortL]]
      exact Kd.R_mono ho0 (fun k hk => .inl hk)
    · have hgl : g < w.heap.size := (Array.getElem?_eq_some_iff.1 hb).1
      refine (Try.slices_Sort_int g 0 cap l0 w (holds_of_blockI hb (by simpa [encs] using h4)) hgl hl).mono ?_
      rintro e w' ⟨rfl, nn, os, rfl⟩
      have hgr := grownBy_sortedI (w := w) (g := g) (n := nn) (os := os) (sortL l0).toArray
      refine ⟨rfl, ?_, hB.grown hgr hB.size (fun k hk => by injection hk with hk; omega), Kept.of_grown hgr (Kept.refl w _) (fun k hk => .inl (ho0.1 k hk))⟩
      refine Kd.R_of_own (enc := Value.int .i64) ?_ (fun k hk => .inl (ho0.1 k hk))
      rw [sortL_len]
      exact ownsRow_sortedI (sortL_len l0) hbase hb h1 h2 h3
  · rw [if_neg hl] at h
    cases h

end Go.Proofs.Ytmhoemdclnlgaaa.P
