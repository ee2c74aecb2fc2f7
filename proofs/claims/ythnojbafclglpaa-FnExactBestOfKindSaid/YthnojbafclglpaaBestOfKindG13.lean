/- What the laws' own helpers compute, in plain words: copies give back what they were given, comparisons of equals say true, marks are held. -/
import Derived.Test.YthnojbafclglpaaBestOfKindG12
import Derived.Test.YthnojbafclglpaaBestOfKindG6
import Derived.Test.YthnojbafclglpaaBestOfKindG11
import Derived.Test.YthnojbafclglpaaBestOfKindG5
import Derived.Handy
import Derived.Shelf.Abstract
import Derived.Test.YthnojbafclglpaaBestOfKindG7
import Derived.Test.YthnojbafclglpaaBestOfKindG9
namespace Go.Proofs.Ythnojbafclglpaa.P
open Go.RowKit Go.Proofs.YthnojbafclglpaaW.PrintWords Go.Proofs.YthnojbafclglpaaW.PrintLast Go.Proofs.YthnojbafclglpaaW.PrintMore
set_option linter.unusedVariables false
set_option linter.unusedSimpArgs false
section
variable {α β : Type}
theorem Ev.pos {c : Prop} [Decidable c] {f g : Nat → Option α} {r : α} (h : c) (k : Ev f r) : Ev (fun n => if c then f n else g n) r := by simpa only [if_pos h] using k
theorem Ev.neg {c : Prop} [Decidable c] {f g : Nat → Option α} {r : α} (h : ¬ c) (k : Ev g r) : Ev (fun n => if c then f n else g n) r := by simpa only [if_neg h] using k
theorem Ev.bindo {o : Option α} {f : Nat → α → Option β} {a : α} {r : β} (h : o = some a) (k : Ev (fun n => f n a) r) : Ev (fun n => o.bind (f n)) r := by simpa only [h, Option.bind_some] using k
theorem Ev.some {o : Option α} {r : α} (h : o = some r) : Ev (fun _ => o) r := ⟨0, fun _ _ => h⟩
end
theorem wrap_nat {m : Int} (h : -9223372036854775808 ≤ m) (h2 : m ≤ 9223372036854775807) : wrap64 m = m := by unfold wrap64; omega
theorem wrap_up {m n : Nat} (h : m < n) (hn : n ≤ 9223372036854775807) : wrap64 ((m : Int) + 1) = ((m + 1 : Nat) : Int) := by unfold wrap64; omega
theorem rd_at (l : List Int) (m : Nat) (h : m < l.length) : rd l (m : Int) = l[m] := by simp [rd, List.getD_eq_getElem?_getD, List.getElem?_eq_getElem h]
theorem rdT_at (l : List S64) (m : Nat) (h : m < l.length) : rd_T64 l (m : Int) = l[m] := by simp [rd_T64, List.getD_eq_getElem?_getD, List.getElem?_eq_getElem h]

/-! The size of a graph that comes in. -/
theorem sz_graph (a : Int) (l : List S64) (hl : l.length ≤ 9223372036854775807) : ∃ t, laws_szGraph.f a l 1048576 = some t ∧ (t < 0 ∨ l.length ≤ 1048576) := by
  unfold laws_szGraph.f laws_szIntA2S.f
  rw [wrap_nat (m := 1048576 - (l.length : Int)) (by omega) (by omega)]
  by_cases h : (1048576 - (l.length : Int)) < 0
  · rw [if_pos h]; exact ⟨-1, rfl, .inl (by omega)⟩
  · rw [if_neg h, Option.bind_some, if_neg h]; exact ⟨_, rfl, .inr (by omega)⟩
/-! Copies. -/
theorem take_set_next {α : Type} (l acc : List α) (m : Nat) (hm : m < l.length) (ha : acc.length = l.length) (h : acc.take m = l.take m) : (acc.set m l[m]).take (m + 1) = l.take (m + 1) := by
  rw [List.take_succ_eq_append_getElem (by rw [List.length_set]; omega), List.take_succ_eq_append_getElem hm, List.getElem_set_self, List.take_set_of_le (Nat.le_refl _), h]
theorem toIntA2S_loop (l : List S64) (hl : l.length ≤ 1048576) (d : Nat) : ∀ (acc : List S64) (m : Nat), l.length - m = d → m ≤ l.length → acc.length = l.length → acc.take m = l.take m →
    Ev (fun k => laws_toIntA2S.l0 k l acc (m : Int)) l := by
  induction d with
  | zero =>
    intro acc m h0 h1 h2 h3
    refine Ev.step (fun k => by rw [laws_toIntA2S.l0]) ?_
    refine Ev.neg (by omega) ?_
    have : acc = l := by rw [← List.take_length (l := acc), ← List.take_length (l := l), h2, show l.length = m by omega]; exact h3
    rw [this]
    exact Ev.now _
  | succ d ih =>
    intro acc m h0 h1 h2 h3
    have hm : m < l.length := by omega
    refine Ev.step (fun k => by rw [laws_toIntA2S.l0]) ?_
    refine Ev.pos (by omega) (Ev.pos (by omega) (Ev.bindo rfl (Ev.pos (by omega) ?_)))
    rw [wrap_up hm (by omega), rdT_at l m hm, Int.toNat_natCast]
    exact ih _ (m + 1) (by omega) (by omega) (by rw [List.length_set]; exact h2) (take_set_next l acc m hm h2 h3)
theorem toIntA2S_ev (l : List S64) (hl : l.length ≤ 1048576) : Ev (fun k => laws_toIntA2S.f k l) l := by
  unfold laws_toIntA2S.f
  refine Ev.pos (by omega) (Ev.pos (by omega) ?_)
  exact toIntA2S_loop l hl l.length _ 0 (by omega) (Nat.zero_le _) (by simp) (by simp)
theorem toGraph_ev (a : Int) (l : List S64) (hl : l.length ≤ 1048576) : Ev (fun k => laws_toGraph.f k a l) (a, l) := by
  unfold laws_toGraph.f
  exact Ev.bind (toIntA2S_ev l hl) (Ev.now _)
/-! Comparisons of equals. -/
theorem eqIntA2S_loop (l : List S64) (hl : l.length ≤ 1048576) (d : Nat) : ∀ (m : Nat), l.length - m = d → m ≤ l.length → Ev (fun k => laws_eqIntA2S.l0 k l l (m : Int)) true := by
  induction d with
  | zero =>
    intro m h0 h1
    refine Ev.step (fun k => by rw [laws_eqIntA2S.l0]) ?_
    exact Ev.neg (by omega) (Ev.now _)
  | succ d ih =>
    intro m h0 h1
    have hm : m < l.length := by omega
    refine Ev.step (fun k => by rw [laws_eqIntA2S.l0]) ?_
    refine Ev.pos (by omega) (Ev.pos (by omega) (Ev.pos (by omega) (Ev.bindo (a := true) (by simp [laws_eqIntA2.f]) (Ev.pos rfl ?_))))
    rw [wrap_up hm (by omega)]
    exact ih (m + 1) (by omega) (by omega)
theorem eqIntA2S_ev (l : List S64) (hl : l.length ≤ 1048576) : Ev (fun k => laws_eqIntA2S.f k l l) true := by
  unfold laws_eqIntA2S.f
  exact Ev.pos rfl (eqIntA2S_loop l hl l.length 0 (by omega) (Nat.zero_le _))
theorem eqGraph_ev (a : Int) (l : List S64) (hl : l.length ≤ 1048576) : Ev (fun k => laws_eqGraph.f k a l a l) true := by
  unfold laws_eqGraph.f
  exact Ev.pos rfl (Ev.bind (eqIntA2S_ev l hl) (Ev.pos rfl (Ev.now _)))
theorem eqIntS_loop (l : List Int) (hl : l.length ≤ 1048576) (d : Nat) : ∀ (m : Nat), l.length - m = d → m ≤ l.length → Ev (fun k => laws_eqIntS.l0 k l l (m : Int)) true := by
  induction d with
  | zero =>
    intro m h0 h1
    refine Ev.step (fun k => by rw [laws_eqIntS.l0]) ?_
    exact Ev.neg (by omega) (Ev.now _)
  | succ d ih =>
    intro m h0 h1
    have hm : m < l.length := by omega
    refine Ev.step (fun k => by rw [laws_eqIntS.l0]) ?_
    refine Ev.pos (by omega) (Ev.pos (by omega) (Ev.pos (by omega) (Ev.pos rfl ?_)))
    rw [wrap_up hm (by omega)]
    exact ih (m + 1) (by omega) (by omega)
theorem eqIntS_ev (l : List Int) (hl : l.length ≤ 1048576) : Ev (fun k => laws_eqIntS.f k l l) true := by
  unfold laws_eqIntS.f
  exact Ev.pos rfl (eqIntS_loop l hl l.length 0 (by omega) (Nat.zero_le _))
end Go.Proofs.Ythnojbafclglpaa.P
namespace Go.Proofs.Ythnojbafclglpaa.P
open Go.RowKit Go.Proofs.YthnojbafclglpaaW.PrintWords Go.Proofs.YthnojbafclglpaaW.PrintLast Go.Proofs.YthnojbafclglpaaW.PrintMore
set_option linter.unusedVariables false
set_option linter.unusedSimpArgs false

/-- Function g, bound to the variables lb, answers p; memory that was there stays. -/
def PredB {α : Type} (g : Nat) (lb : Array Value) (enc : α → Value) (p : α → Bool) (l : List α) (w : World) : Prop :=
  ∀ (W : World) (x : α), x ∈ l → Below w.heap.size w W → Calls Try.prog g (#[enc x] ++ lb) W fun e w' => e = .returned (.bool (p x)) ∧ Below W.heap.size W w'

set_option maxRecDepth 100000 in
set_option maxHeartbeats 2000000 in
theorem idxf_prs (g : Nat) (lb : Array Value) (eg : ∀ (args : Array Value) (w : World), (callFunc g args).run Try.prog w = .ok (.enter g args) w) (p : S64 → Bool) (A0 : Option Addr) (c0 : Nat) (l0 : List S64) (w : World) (hr0 : Kd.C k64 w A0 l0.length l0)
    (hp : PredB g lb (fun x : S64 => Value.agg #[.int .i64 x.f0, .int .i64 x.f1]) p l0 w) :
    Calls Try.prog 196 #[.slice A0 l0.length c0, .func (.func g) #[] lb] w fun e w' => (∃ r : Int, e = .returned (.int .i64 r) ∧ (0 ≤ r ↔ l0.any p = true)) ∧ Below w.heap.size w w' := by
  have HR0 := Aside0.mk hr0
  have HP := Aside0.mk hp
  have HL := Aside0.mk (hr0.2.1)
  clear hr0 hp
  go_enter Try.func196, Try.ntmps196
  go_wp2
  go_loopg [8, 5] (l0.length + 1) (fun kq v8 v5 w' => ∃ (m : Nat), v8 = .int .i64 m ∧ Aside0 (m ≤ l0.length) ∧ Aside0 (kq = l0.length - m + 1) ∧ Aside0 ((l0.take m).any p = false) ∧ Aside0 (Below w.heap.size w w'))
  case atStart => exact ⟨0, rfl, ⟨Nat.zero_le _⟩, ⟨by omega⟩, ⟨by simp⟩, ⟨Below.refl _ _⟩⟩
  case round =>
    obtain ⟨m, rfl, HM, HK1, HA, HB⟩ := hrel
    by_cases c1 : m < l0.length
    · have p1 : (0 : Int) ≤ (m : Int) := by omega
      have q1 : (m : Int) < (l0.length : Int) := by omega
      obtain ⟨ad, e1, hx0, hx1⟩ := at_T64 HR0.out (m : Int) p1 q1
      cases e1
      replace hx0 := (HB.out.cell (World.block_lt_of_cell? w _ hx0)).trans hx0
      replace hx1 := (HB.out.cell (World.block_lt_of_cell? w _ hx1)).trans hx1
      rw [Int.toNat_natCast] at hx0 hx1
      have HG := Aside0.mk (show l0[m] = rd_T64 l0 m by simp [rd_T64, List.getD_eq_getElem?_getD, List.getElem?_eq_getElem c1])
      have HT := Aside0.mk (show (l0.take (m + 1)).any p = p (rd_T64 l0 m) by rw [List.take_succ_eq_append_getElem c1, List.any_append, HA.out, HG.out]; simp)
      have HQ := Aside0.mk (show p (rd_T64 l0 m) = true → l0.any p = true from fun hq => List.any_eq_true.2 ⟨l0[m], List.getElem_mem c1, by rw [HG.out]; exact hq⟩)
      have c1b : decide ((m : Int) < (l0.length : Int)) = true := decide_eq_true q1
      have c1c : decide (m < l0.length) = true := decide_eq_true c1
      have hw1 : (m : Int) + 1 ≤ 9223372036854775807 := by have := HL.out; omega
      have hcall := HP.out _ (rd_T64 l0 m) (by rw [← HG.out]; exact List.getElem_mem c1) HB.out
      have HC := Aside0.mk hcall
      replace p1 := eq_true p1
      replace q1 := eq_true q1
      clear c1 hcall HG HA
      cases hq : p (rd_T64 l0 m) with
      | true =>
        have HQ2 := Aside0.mk (HQ.out hq)
        rw [hq] at HC
        clear hq HQ HT
        go_wp2_with (go_at_fn g; refine HC.out.mono ?_; rintro e w' ⟨rfl, hb⟩)
        go_ret
        exact ⟨⟨_, rfl, ⟨fun _ => HQ2.out, fun _ => by have := of_eq_true p1; first | exact this | (simpa using this) | omega⟩⟩, below_step HB.out hb⟩
      | false =>
        rw [hq] at HT HC
        clear hq HQ
        go_wp2_with (go_at_fn g; refine HC.out.mono ?_; rintro e w' ⟨rfl, hb⟩)
        go_roundg (l0.length - m)
        case measure => have := HK1.out; have := HM.out; omega
        case rel => exact ⟨m + 1, by first | rfl | (simp; done) | go_num, ⟨by have := of_eq_true q1; omega⟩, ⟨by have := of_eq_true q1; omega⟩, HT, ⟨below_step HB.out hb⟩⟩
    · have q1 : ¬ (m : Int) < (l0.length : Int) := by omega
      have c1b : decide ((m : Int) < (l0.length : Int)) = false := decide_eq_false q1
      have c1c : decide (m < l0.length) = false := decide_eq_false c1
      have H3 : Aside0 (l0.any p = false) := ⟨by
        have e_ := HA.out
        rw [List.take_of_length_le (show l0.length ≤ m by omega)] at e_
        exact e_⟩
      clear HA c1 q1
      go_wp2
      go_ret
      exact ⟨⟨-1, rfl, by rw [H3.out]; simp⟩, HB.out⟩
set_option maxRecDepth 100000 in
set_option maxHeartbeats 2000000 in
theorem cont_prs (g : Nat) (lb : Array Value) (eg : ∀ (args : Array Value) (w : World), (callFunc g args).run Try.prog w = .ok (.enter g args) w) (p : S64 → Bool) (A0 : Option Addr) (c0 : Nat) (l0 : List S64) (w : World) (hr0 : Kd.C k64 w A0 l0.length l0)
    (hp : PredB g lb (fun x : S64 => Value.agg #[.int .i64 x.f0, .int .i64 x.f1]) p l0 w) :
    Calls Try.prog 163 #[.slice A0 l0.length c0, .func (.func g) #[] lb] w fun e w' => e = .returned (.bool (l0.any p)) ∧ Below w.heap.size w w' := by
  have HR0 := Aside0.mk hr0
  have HP := Aside0.mk hp
  clear hr0 hp
  go_enter Try.func163, Try.ntmps163
  go_wp2_with (go_at_call 196; refine (idxf_prs g lb eg p A0 c0 l0 w HR0.out HP.out).mono ?_; rintro e w' ⟨⟨r, rfl, hr⟩, hb⟩; have HQ := Aside0.mk hr; have HB := Aside0.mk hb; clear hr hb)
  go_ret
  refine ⟨?_, HB.out⟩
  have := HQ.out
  cases ha : l0.any p <;> rw [ha] at this <;> simp at this <;> simp <;> omega

end Go.Proofs.Ythnojbafclglpaa.P
namespace Go.Proofs.Ythnojbafclglpaa.P
open Go.RowKit Go.Proofs.YthnojbafclglpaaW.PrintWords Go.Proofs.YthnojbafclglpaaW.PrintLast Go.Proofs.YthnojbafclglpaaW.PrintMore
attribute [local go_sem] max2_int min2_int max_two min_two max_three min_three max_four min_four   -- for this text's walks alone
set_option linter.unusedVariables false
set_option linter.unusedSimpArgs false

/-! ### slices_Compare_int_int: function 105 -/
def slices_Compare_int_int.l0 : Nat → List Int → List Int → List Int → Int → Int → Option (Int)
 | 0, _, _, _, _, _ => none
 | k + 1, x0, x1, x9, x10, x11 => if x11 < x10 then (if 0 ≤ x11 then (if x11 < (x9.length : Int) then (if x11 ≥ (x1.length : Int) then (some 1) else (if x11 < (x1.length : Int) then ((cmp_Compare_int.f (rd x9 x11) (rd x1 x11)).bind fun t152 => (if t152 = 0 then (slices_Compare_int_int.l0 k x0 x1 x9 x10 (wrap64 (x11 + 1))) else (some t152))) else (none))) else (none)) else (none)) else (if (x0.length : Int) < (x1.length : Int) then (some (-1)) else (some 0))
def slices_Compare_int_int.f (k : Nat) (l0 : List Int) (l1 : List Int) : Option (Int) := slices_Compare_int_int.l0 k l0 l1 l0 (l0.length : Int) 0
set_option maxHeartbeats 8000000 in
set_option maxRecDepth 100000 in
theorem slices_Compare_int_int.calls (k : Nat) (A0 : Option Addr) (c0 : Nat) (l0 : List Int) (A1 : Option Addr) (c1 : Nat) (l1 : List Int) (r : Int) (w : World) (hr0 : Kd.C (Kd.int .i64) w A0 l0.length l0) (hc0 : l0.length ≤ c0) (hr1 : Kd.C (Kd.int .i64) w A1 l1.length l1) (hc1 : l1.length ≤ c1) (h : slices_Compare_int_int.f k l0 l1 = some r) :
 Calls Try.prog 105 #[.slice A0 l0.length c0, .slice A1 l1.length c1] w fun e w' => e = .returned (.int .i64 r) ∧ Drawn0 w w' := by
 have HR0 := Aside0.mk hr0
 have HC0 := Aside0.mk hc0
 clear hr0 hc0
 have HR1 := Aside0.mk hr1
 have HC1 := Aside0.mk hc1
 clear hr1 hc1
 have H : (slices_Compare_int_int.l0 k l0 l1 l0 (l0.length : Int) 0) = some r := h
 clear h
 have H' := Aside0.mk H
 clear H
 go_enter Try.func105, Try.ntmps105
 go_wp2
 go_loopg [11] k (fun kq v11 w' => ∃ (x11_1 : Int), v11 = .int .i64 x11_1 ∧ Aside0 (slices_Compare_int_int.l0 kq l0 l1 l0 (l0.length : Int) x11_1 = some r) ∧ Aside0 (kq ≤ k) ∧ Drawn0 w w')
 case atStart => exact ⟨(0), (by first | rfl | (simp; done) | (simp [*]; done)), H', ⟨Nat.le_refl _⟩, by repeat (first | exact Drawn0.refl _ | apply Drawn0.step)⟩
 case round =>
  clear H'
  try clear c1
  try clear p2
  obtain ⟨x11_1, rfl, HA, HK1, ⟨m1, rfl⟩⟩ := hrel
  cases gk with
  | zero => exact absurd HA.out (by simp [slices_Compare_int_int.l0])
  | succ k1 =>
   have H := HA.out
   clear HA
   simp only [slices_Compare_int_int.l0] at H
   by_cases c3 : x11_1 < (l0.length : Int)
   · rw [if_pos c3] at H
     have c3b0 := decide_eq_true c3
     clear c3
     by_cases c4 : 0 ≤ x11_1
     · rw [if_pos c4] at H
       have c4b0 := decide_eq_true c4
       clear c4
       by_cases c5 : x11_1 < (l0.length : Int)
       · rw [if_pos c5] at H
         have c5b0 := decide_eq_true c5
         clear c5
         by_cases c6 : x11_1 ≥ (l1.length : Int)
         · rw [if_pos c6] at H
           have c6b0 : decide ((l1.length : Int) ≤ x11_1) = true := decide_eq_true c6
           clear c6
           obtain rfl := Option.some.inj H
           have p150 : 0 ≤ (x11_1 : Int) := of_decide_eq_true zA
           have q150 : x11_1 < (l0.length : Int) := of_decide_eq_true zA
           obtain ⟨ad150, e150, hx150_0⟩ := Kd.at_int HR0.out x11_1 p150 q150
           cases e150
           replace p150 := eq_true p150
           replace q150 := eq_true q150
           go_wp2
           go_ret
           exact ⟨by first | rfl | (simp; done) | (simp [*]; done), by repeat (first | exact Drawn0.refl _ | apply Drawn0.step)⟩
         · rw [if_neg c6] at H
           have c6b0 : decide ((l1.length : Int) ≤ x11_1) = false := decide_eq_false c6
           clear c6
           by_cases c7 : x11_1 < (l1.length : Int)
           · rw [if_pos c7] at H
             have c7b0 := decide_eq_true c7
             clear c7
             replace H := Option.bind_eq_some_iff.mp H
             obtain ⟨t152, A80, H⟩ := H
             have A8 := Aside0.mk A80
             clear A80
             by_cases c9 : t152 = 0
             · rw [if_pos c9] at H
               have c9b0 : (t152 == 0) = true := beq_iff_eq.mpr c9
               have c9b1 : (t152 != 0) = false := bne_eq_false_iff_eq.mpr c9
               clear c9
               have H' := Aside0.mk H
               clear H
               have p150 : 0 ≤ (x11_1 : Int) := of_decide_eq_true zA
               have q150 : x11_1 < (l0.length : Int) := of_decide_eq_true zA
               obtain ⟨ad150, e150, hx150_0⟩ := Kd.at_int HR0.out x11_1 p150 q150
               cases e150
               replace p150 := eq_true p150
               replace q150 := eq_true q150
               have p151 : 0 ≤ (x11_1 : Int) := of_decide_eq_true zA
               have q151 : x11_1 < (l1.length : Int) := of_decide_eq_true zA
               obtain ⟨ad151, e151, hx151_0⟩ := Kd.at_int HR1.out x11_1 p151 q151
               cases e151
               replace p151 := eq_true p151
               replace q151 := eq_true q151
               go_wp2_with (first | ((with_reducible refine gate_callee (f := 131) rfl ?_); refine zc 26 Try.func131 #[.int .i64 (rd l0 x11_1), .int .i64 (rd l1 x11_1)] ?_; (with_reducible refine (cmp_Compare_int.calls (rd l0 x11_1) (rd l1 x11_1) t152 _ A8.out).mono ?_); rintro e w' ⟨rfl, ⟨nd, rfl⟩⟩; refine ⟨_, rfl, ?_⟩))
               go_roundg k1
               case measure => have := HK1.out; omega
               case rel => exact ⟨(wrap64 (x11_1 + 1)), (by first | rfl | (simp; done) | (simp [*]; done)), H', ⟨by have := HK1.out; omega⟩, by repeat (first | exact Drawn0.refl _ | apply Drawn0.step)⟩
             · rw [if_neg c9] at H
               have c9b0 : (t152 == 0) = false := beq_eq_false_iff_ne.mpr c9
               have c9b1 : (t152 != 0) = true := bne_iff_ne.mpr c9
               obtain rfl := Option.some.inj H
               have p150 : 0 ≤ (x11_1 : Int) := of_decide_eq_true zA
               have q150 : x11_1 < (l0.length : Int) := of_decide_eq_true zA
               obtain ⟨ad150, e150, hx150_0⟩ := Kd.at_int HR0.out x11_1 p150 q150
               cases e150
               replace p150 := eq_true p150
               replace q150 := eq_true q150
               have p151 : 0 ≤ (x11_1 : Int) := of_decide_eq_true zA
               have q151 : x11_1 < (l1.length : Int) := of_decide_eq_true zA
               obtain ⟨ad151, e151, hx151_0⟩ := Kd.at_int HR1.out x11_1 p151 q151
               cases e151
               replace p151 := eq_true p151
               replace q151 := eq_true q151
               go_wp2_with (first | ((with_reducible refine gate_callee (f := 131) rfl ?_); refine zc 26 Try.func131 #[.int .i64 (rd l0 x11_1), .int .i64 (rd l1 x11_1)] ?_; (with_reducible refine (cmp_Compare_int.calls (rd l0 x11_1) (rd l1 x11_1) t152 _ A8.out).mono ?_); rintro e w' ⟨rfl, ⟨nd, rfl⟩⟩; refine ⟨_, rfl, ?_⟩))
               go_ret
               exact ⟨by first | rfl | (simp; done) | (simp [*]; done), by repeat (first | exact Drawn0.refl _ | apply Drawn0.step)⟩
           · rw [if_neg c7] at H
             exact absurd H (by simp)
       · rw [if_neg c5] at H
         exact absurd H (by simp)
     · rw [if_neg c4] at H
       exact absurd H (by simp)
   · rw [if_neg c3] at H
     have c3b0 : decide (x11_1 < (l0.length : Int)) = false := decide_eq_false c3
     clear c3
     by_cases c10 : (l0.length : Int) < (l1.length : Int)
     · rw [if_pos c10] at H
       have c10b0 := decide_eq_true c10
       have c10b1 : decide (l0.length < l1.length) = true := decide_eq_true (Int.ofNat_lt.mp c10)
       clear c10
       obtain rfl := Option.some.inj H
       go_wp2
       go_ret
       exact ⟨by first | rfl | (simp; done) | (simp [*]; done), by repeat (first | exact Drawn0.refl _ | apply Drawn0.step)⟩
     · rw [if_neg c10] at H
       have c10b0 : decide ((l0.length : Int) < (l1.length : Int)) = false := decide_eq_false c10
       have c10b1 : decide (l0.length < l1.length) = false := decide_eq_false (fun h => c10 (Int.ofNat_lt.mpr h))
       clear c10
       obtain rfl := Option.some.inj H
       go_wp2
       go_ret
       exact ⟨by first | rfl | (simp; done) | (simp [*]; done), by repeat (first | exact Drawn0.refl _ | apply Drawn0.step)⟩

end Go.Proofs.Ythnojbafclglpaa.P
namespace Go.Proofs.Ythnojbafclglpaa.P
open Go.RowKit Go.Proofs.YthnojbafclglpaaW.PrintWords Go.Proofs.YthnojbafclglpaaW.PrintLast Go.Proofs.YthnojbafclglpaaW.PrintMore
set_option linter.unusedVariables false
set_option linter.unusedSimpArgs false

def cmpI (a b : Int) : Int := if a < b then -1 else if a > b then 1 else 0
theorem cmp_Compare_at (a b : Int) : cmp_Compare_int.f a b = some (cmpI a b) := by
  unfold cmp_Compare_int.f cmp_isNaN_int.f cmpI
  simp only [Option.bind_some, bne_self_eq_false, Bool.false_eq_true, if_false]
  split
  · rfl
  · split <;> rfl
def cmpL : List Int → List Int → Int
  | [], [] => 0
  | [], _ :: _ => -1
  | _ :: _, [] => 1
  | a :: x, b :: y => if cmpI a b = 0 then cmpL x y else cmpI a b
theorem wrap_succ {m n : Nat} (h : m < n) (hn : n ≤ 9223372036854775807) : wrap64 ((m : Int) + 1) = ((m + 1 : Nat) : Int) := by unfold wrap64; omega
theorem slices_Compare_loop (l0 l1 : List Int) (hl : Aside0 (l0.length ≤ 9223372036854775807)) (d : Nat) : ∀ (k m : Nat), l0.length - m = d → m ≤ l0.length → m ≤ l1.length → d < k →
    slices_Compare_int_int.l0 k l0 l1 l0 (l0.length : Int) (m : Int) = some (cmpL (l0.drop m) (l1.drop m)) := by
  induction d with
  | zero =>
    intro k m h0 h1 h2 hk
    obtain ⟨k, rfl⟩ : ∃ q, k = q + 1 := ⟨k - 1, by omega⟩
    have e : m = l0.length := by omega
    subst e
    rw [slices_Compare_int_int.l0, if_neg (by omega), List.drop_length]
    by_cases h : l0.length < l1.length
    · rw [if_pos (by omega), List.drop_eq_getElem_cons h]; rfl
    · have e3 : l1.drop l0.length = [] := List.drop_eq_nil_of_le (by omega)
      rw [if_neg (by omega), e3]; rfl
  | succ d ih =>
    intro k m h0 h1 h2 hk
    obtain ⟨k, rfl⟩ : ∃ q, k = q + 1 := ⟨k - 1, by omega⟩
    have hm : m < l0.length := by omega
    rw [slices_Compare_int_int.l0, if_pos (by omega), if_pos (by omega), if_pos (by omega)]
    by_cases h : m < l1.length
    · rw [if_neg (by omega), if_pos (by omega), cmp_Compare_at, Option.bind_some]
      have e0 : rd l0 m = l0[m] := by simp [rd, List.getD_eq_getElem?_getD, List.getElem?_eq_getElem hm]
      have e1 : rd l1 m = l1[m] := by simp [rd, List.getD_eq_getElem?_getD, List.getElem?_eq_getElem h]
      rw [e0, e1, List.drop_eq_getElem_cons hm, List.drop_eq_getElem_cons h, cmpL]
      split
      · rw [wrap_succ hm hl.out]
        exact ih k (m + 1) (by omega) (by omega) (by omega) (by omega)
      · rfl
    · have e3 : l1.drop m = [] := List.drop_eq_nil_of_le (by omega)
      rw [if_pos (by omega), List.drop_eq_getElem_cons hm, e3]; rfl
theorem slices_Compare_at (l0 l1 : List Int) (hl : l0.length ≤ 9223372036854775807) (k : Nat) (hk : l0.length < k) : slices_Compare_int_int.f k l0 l1 = some (cmpL l0 l1) :=
  slices_Compare_loop l0 l1 ⟨hl⟩ l0.length k 0 (by omega) (Nat.zero_le _) (Nat.zero_le _) hk
def cmpP (a b : S64) : Int := if cmpI a.f0 b.f0 = 0 then cmpI a.f1 b.f1 else cmpI a.f0 b.f0
theorem comparePairs_at (a b : S64) (k : Nat) (hk : 3 ≤ k) : impl_comparePairs.f k a.f0 a.f1 b.f0 b.f1 = some (cmpP a b) := by
  obtain ⟨k, rfl⟩ : ∃ q, k = q + 3 := ⟨k - 3, by omega⟩
  unfold impl_comparePairs.f cmp_Or_int.f
  simp only [cmp_Compare_at, Option.bind_some]
  unfold cmpP
  generalize cmpI a.f0 b.f0 = x
  generalize cmpI a.f1 b.f1 = y
  have w1 : wrap64 (0 + 1) = 1 := by unfold wrap64; omega
  have w2 : wrap64 (1 + 1) = 2 := by unfold wrap64; omega
  have r0 : rd [x, y] 0 = x := rfl
  have r1 : rd [x, y] 1 = y := rfl
  have hn : (([x, y] : List Int).length : Int) = 2 := rfl
  rw [hn, cmp_Or_int.l0, if_pos (by omega), if_pos (by omega), hn, if_pos (by omega), r0, w1]
  by_cases h : x = 0
  · rw [if_pos h, if_pos h, cmp_Or_int.l0, if_pos (by omega), if_pos (by omega), hn, if_pos (by omega), r1, w2]
    by_cases h2 : y = 0
    · rw [if_pos h2, cmp_Or_int.l0, if_neg (by omega), h2]; rfl
    · rw [if_neg h2]; rfl
  · rw [if_neg h, if_neg h]; rfl
end Go.Proofs.Ythnojbafclglpaa.P
namespace Go.Proofs.Ythnojbafclglpaa.P
open Go.RowKit Go.Proofs.YthnojbafclglpaaW.PrintWords Go.Proofs.YthnojbafclglpaaW.PrintLast Go.Proofs.YthnojbafclglpaaW.PrintMore
set_option linter.unusedVariables false
set_option linter.unusedSimpArgs false

theorem in_at (a lo hi : Int) : spec_l1In.f a lo hi = some (decide (lo ≤ a) && decide (a ≤ hi)) := by
  unfold spec_l1In.f
  by_cases h : lo ≤ a
  · rw [if_pos h, decide_eq_true h, Bool.true_and]
  · rw [if_neg h, decide_eq_false h, Bool.false_and]
theorem between_at (a lo hi : Int) : impl_between.f a lo hi = some (decide (lo ≤ a) && decide (a ≤ hi)) := by
  unfold impl_between.f
  by_cases h : lo ≤ a
  · rw [if_pos h, decide_eq_true h, Bool.true_and]
  · rw [if_neg h, decide_eq_false h, Bool.false_and]
/-- A pair comes before another one. -/
def befP (a b : S64) : Bool := decide (a.f0 < b.f0) || (decide (a.f0 = b.f0) && decide (a.f1 < b.f1))
theorem edge_at (a b : S64) : spec_l2Edge.f a.f0 a.f1 b.f0 b.f1 = some (befP a b) := by
  unfold spec_l2Edge.f befP
  by_cases h : a.f0 < b.f0
  · rw [if_pos h, decide_eq_true h, Bool.true_or]
  · rw [if_neg h, decide_eq_false h, Bool.false_or]
    by_cases h2 : a.f0 = b.f0
    · rw [if_pos h2, decide_eq_true h2, Bool.true_and]
    · rw [if_neg h2, decide_eq_false h2, Bool.false_and]
theorem cmpP_bef (a b : S64) : (cmpP a b < 0) ↔ befP a b = true := by
  unfold cmpP befP cmpI
  simp only [Bool.or_eq_true, Bool.and_eq_true, decide_eq_true_eq]
  by_cases h : a.f0 < b.f0
  · simp [h]
  · by_cases h2 : b.f0 < a.f0
    · have : ¬ a.f0 = b.f0 := by omega
      simp [h, h2, this]
    · have h3 : a.f0 = b.f0 := by omega
      by_cases h4 : a.f1 < b.f1
      · simp [h3, h4]
      · by_cases h5 : b.f1 < a.f1 <;> simp [h3, h4, h5]
/-- Pairs of numbers from 0 on below n, the less one first, strictly ascending behind a first one. -/
def goodP (n : Int) : Option S64 → List S64 → Bool
  | _, [] => true
  | p, e :: t => (decide (0 ≤ e.f0) && decide (e.f0 < e.f1) && decide (e.f1 < n)) && ((match p with | none => true | some q => befP q e) && goodP n (some e) t)
def prevP (l : List S64) : Nat → Option S64
  | 0 => none
  | m + 1 => l[m]?
theorem goodP_step (l : List S64) (n : Int) (m : Nat) (hm : m < l.length) : goodP n (prevP l m) (l.drop m) = ((decide (0 ≤ l[m].f0) && decide (l[m].f0 < l[m].f1) && decide (l[m].f1 < n)) && ((match prevP l m with | none => true | some q => befP q l[m]) && goodP n (prevP l (m + 1)) (l.drop (m + 1)))) := by
  rw [List.drop_eq_getElem_cons hm, show prevP l (m + 1) = some l[m] from List.getElem?_eq_getElem hm]
  cases prevP l m <;> rfl
theorem l2Pairs_loop (l : List S64) (n : Int) (hn : 0 ≤ n) (hn2 : n ≤ 4611686018427387904) (hl : l.length ≤ 1048576) (d : Nat) : ∀ (m : Nat), l.length - m = d → m ≤ l.length →
    Ev (fun k => spec_l2Pairs.l0 k l n (m : Int)) (goodP n (prevP l m) (l.drop m)) := by
  induction d with
  | zero =>
    intro m h0 h1
    refine Ev.step (fun k => by rw [spec_l2Pairs.l0]) ?_
    have e3 : l.drop m = [] := List.drop_eq_nil_of_le (by omega)
    rw [e3]
    refine Ev.neg (by omega) ?_
    cases prevP l m <;> exact Ev.now _
  | succ d ih =>
    intro m h0 h1
    have hm : m < l.length := by omega
    refine Ev.step (fun k => by rw [spec_l2Pairs.l0]) ?_
    rw [goodP_step l n m hm]
    refine Ev.pos (by omega) (Ev.pos (by omega) ?_)
    rw [rdT_at l m hm, wrap_nat (m := n - 1) (by omega) (by omega)]
    have ihm := ih (m + 1) (by omega) (by omega)
    rw [← wrap_up hm (by omega)] at ihm
    generalize goodP n (prevP l (m + 1)) (l.drop (m + 1)) = R at ihm ⊢
    refine Ev.bindo (in_at _ _ _) ?_
    by_cases c1 : 0 ≤ l[m].f0
    · by_cases c2 : l[m].f0 ≤ n - 1
      · refine Ev.pos (by simp [c1, c2]) (Ev.bindo (in_at _ _ _) ?_)
        by_cases c3 : 0 ≤ l[m].f1 ∧ l[m].f1 ≤ n - 1
        · refine Ev.pos (by simp [c3.1, c3.2]) ?_
          by_cases c4 : l[m].f0 ≥ l[m].f1
          · have : (decide (0 ≤ l[m].f0) && decide (l[m].f0 < l[m].f1) && decide (l[m].f1 < n)) = false := by simp; omega
            rw [this, Bool.false_and]
            exact Ev.pos c4 (Ev.now _)
          · have : (decide (0 ≤ l[m].f0) && decide (l[m].f0 < l[m].f1) && decide (l[m].f1 < n)) = true := by simp; omega
            rw [this, Bool.true_and]
            refine Ev.neg c4 ?_
            cases m with
            | zero =>
              refine Ev.neg (by omega) ?_
              simp only [prevP, Bool.true_and]
              exact ihm
            | succ q =>
              have hq : q < l.length := by omega
              have hw : wrap64 (((q + 1 : Nat) : Int) - 1) = (q : Int) := by unfold wrap64; omega
              refine Ev.pos (by omega) ?_
              rw [hw]
              refine Ev.pos (by omega) (Ev.pos (by omega) ?_)
              rw [rdT_at l q hq]
              refine Ev.bindo (edge_at _ _) ?_
              simp only [prevP, List.getElem?_eq_getElem hq]
              cases befP l[q] l[q + 1] with
              | true => rw [Bool.true_and]; exact Ev.pos rfl ihm
              | false => rw [Bool.false_and]; exact Ev.neg (by decide) (Ev.now _)
        · have : (decide (0 ≤ l[m].f0) && decide (l[m].f0 < l[m].f1) && decide (l[m].f1 < n)) = false := by simp; omega
          rw [this, Bool.false_and]
          exact Ev.neg (by simp; omega) (Ev.now _)
      · have : (decide (0 ≤ l[m].f0) && decide (l[m].f0 < l[m].f1) && decide (l[m].f1 < n)) = false := by simp; omega
        rw [this, Bool.false_and]
        exact Ev.neg (by simp; omega) (Ev.now _)
    · have : (decide (0 ≤ l[m].f0) && decide (l[m].f0 < l[m].f1) && decide (l[m].f1 < n)) = false := by simp; omega
      rw [this, Bool.false_and]
      exact Ev.neg (by simp; omega) (Ev.now _)
theorem isPairs_loop (l : List S64) (n : Int) (hl : l.length ≤ 1048576) (d : Nat) : ∀ (m : Nat), l.length - m = d → m ≤ l.length →
    Ev (fun k => impl_isPairs.l0 k l n l (l.length : Int) (m : Int)) (goodP n (prevP l m) (l.drop m)) := by
  induction d with
  | zero =>
    intro m h0 h1
    refine Ev.step (fun k => by rw [impl_isPairs.l0]) ?_
    have e3 : l.drop m = [] := List.drop_eq_nil_of_le (by omega)
    rw [e3]
    refine Ev.neg (by omega) ?_
    cases prevP l m <;> exact Ev.now _
  | succ d ih =>
    intro m h0 h1
    have hm : m < l.length := by omega
    refine Ev.step (fun k => by rw [impl_isPairs.l0]) ?_
    rw [goodP_step l n m hm]
    refine Ev.pos (by omega) (Ev.pos (by omega) (Ev.pos (by omega) ?_))
    rw [rdT_at l m hm]
    have ihm := ih (m + 1) (by omega) (by omega)
    rw [← wrap_up hm (by omega)] at ihm
    generalize goodP n (prevP l (m + 1)) (l.drop (m + 1)) = R at ihm ⊢
    by_cases c1 : l[m].f0 < 0
    · have : (decide (0 ≤ l[m].f0) && decide (l[m].f0 < l[m].f1) && decide (l[m].f1 < n)) = false := by simp; omega
      rw [this, Bool.false_and]
      exact Ev.pos c1 (Ev.now _)
    · refine Ev.neg c1 ?_
      by_cases c2 : l[m].f0 ≥ l[m].f1
      · have : (decide (0 ≤ l[m].f0) && decide (l[m].f0 < l[m].f1) && decide (l[m].f1 < n)) = false := by simp; omega
        rw [this, Bool.false_and]
        exact Ev.pos c2 (Ev.now _)
      · refine Ev.neg c2 ?_
        by_cases c3 : l[m].f1 ≥ n
        · have : (decide (0 ≤ l[m].f0) && decide (l[m].f0 < l[m].f1) && decide (l[m].f1 < n)) = false := by simp; omega
          rw [this, Bool.false_and]
          exact Ev.pos c3 (Ev.now _)
        · have : (decide (0 ≤ l[m].f0) && decide (l[m].f0 < l[m].f1) && decide (l[m].f1 < n)) = true := by simp; omega
          rw [this, Bool.true_and]
          refine Ev.neg c3 ?_
          cases m with
          | zero =>
            refine Ev.neg (by omega) ?_
            simp only [prevP, Bool.true_and]
            exact ihm
          | succ q =>
            have hq : q < l.length := by omega
            have hw : wrap64 (((q + 1 : Nat) : Int) - 1) = (q : Int) := by unfold wrap64; omega
            refine Ev.pos (by omega) ?_
            rw [hw]
            refine Ev.pos (by omega) (Ev.pos (by omega) ?_)
            rw [rdT_at l q hq]
            refine Ev.bind (a := cmpP l[q] l[q + 1]) ⟨3, fun k hk => comparePairs_at _ _ k hk⟩ ?_
            simp only [prevP, List.getElem?_eq_getElem hq]
            have hb := cmpP_bef l[q] l[q + 1]
            cases hbb : befP l[q] l[q + 1] with
            | true => rw [Bool.true_and]; exact Ev.neg (by have := hb.2 hbb; omega) ihm
            | false => rw [Bool.false_and]; exact Ev.pos (by rw [hbb] at hb; have : ¬ cmpP l[q] l[q+1] < 0 := fun h => by have := hb.1 h; cases this
                                                             omega) (Ev.now _)
theorem l2Pairs_ev (l : List S64) (n : Int) (hn : 0 ≤ n) (hn2 : n ≤ 4611686018427387904) (hl : l.length ≤ 1048576) : Ev (fun k => spec_l2Pairs.f k l n) (goodP n none l) :=
  l2Pairs_loop l n hn hn2 hl l.length 0 (by omega) (Nat.zero_le _)
theorem isPairs_ev (l : List S64) (n : Int) (hl : l.length ≤ 1048576) : Ev (fun k => impl_isPairs.f k l n) (goodP n none l) :=
  isPairs_loop l n hl l.length 0 (by omega) (Nat.zero_le _)
/-- A valid graph. -/
def okG (a : Int) (l : List S64) : Bool := (decide (0 ≤ a) && decide (a ≤ 8)) && goodP a none l
theorem l2Good_ev (a : Int) (l : List S64) (hl : l.length ≤ 1048576) : Ev (fun k => spec_l2Good.f k a l) (okG a l) := by
  unfold spec_l2Good.f okG
  refine Ev.bindo (in_at _ _ _) ?_
  by_cases h : (decide (0 ≤ a) && decide (a ≤ 8)) = true
  · rw [h, Bool.true_and]
    simp at h
    exact Ev.pos rfl (Ev.bind (l2Pairs_ev l a h.1 (by omega) hl) (Ev.now _))
  · have h2 : (decide (0 ≤ a) && decide (a ≤ 8)) = false := by simpa using h
    rw [h2, Bool.false_and]
    exact Ev.neg (by decide) (Ev.now _)
theorem impl_IsGraph_ev (a : Int) (l : List S64) (hl : l.length ≤ 1048576) : Ev (fun k => impl_IsGraph.f k a l) (okG a l) := by
  unfold impl_IsGraph.f okG
  refine Ev.bindo (between_at _ _ _) ?_
  by_cases h : (decide (0 ≤ a) && decide (a ≤ 8)) = true
  · rw [h, Bool.true_and]
    exact Ev.pos rfl (Ev.bind (isPairs_ev l a hl) (Ev.now _))
  · have h2 : (decide (0 ≤ a) && decide (a ≤ 8)) = false := by simpa using h
    rw [h2, Bool.false_and]
    exact Ev.neg (by decide) (Ev.now _)
end Go.Proofs.Ythnojbafclglpaa.P
namespace Go.Proofs.Ythnojbafclglpaa.P
open Go.RowKit Go.Proofs.YthnojbafclglpaaW.PrintWords Go.Proofs.YthnojbafclglpaaW.PrintLast Go.Proofs.YthnojbafclglpaaW.PrintMore
set_option linter.unusedVariables false
set_option linter.unusedSimpArgs false

theorem rdL_at (l : List (List Int)) (m : Nat) (h : m < l.length) : rd_L4 l (m : Int) = l[m] := by simp [rd_L4, List.getD_eq_getElem?_getD, List.getElem?_eq_getElem h]
/-- A space of moderate size. -/
def modS (l : List (List Int)) (e : List S64) : Prop := l.length ≤ 1048576 ∧ (∀ s ∈ l, s.length ≤ 1048576) ∧ e.length ≤ 1048576
/-- A list comes before another one. -/
def befL : List Int → List Int → Bool
  | [], [] => false
  | [], _ :: _ => true
  | _ :: _, [] => false
  | a :: x, b :: y => if a = b then befL x y else decide (a < b)
theorem l2Before_loop (x y : List Int) (hx : x.length ≤ 1048576) (hy : y.length ≤ 1048576) (d : Nat) : ∀ (m : Nat), x.length - m = d → m ≤ x.length → m ≤ y.length →
    Ev (fun k => spec_l2Before.l0 k x y (m : Int)) (befL (x.drop m) (y.drop m)) := by
  induction d with
  | zero =>
    intro m h0 h1 h2
    refine Ev.step (fun k => by rw [spec_l2Before.l0]) (Ev.neg (by omega) (Ev.step (fun k => by rw [spec_l2Before.j1]) (Ev.neg (by decide) ?_)))
    rw [show x.drop m = [] from List.drop_eq_nil_of_le (by omega)]
    by_cases h : m < y.length
    · rw [List.drop_eq_getElem_cons h, show decide ((x.length : Int) < (y.length : Int)) = true from decide_eq_true (by omega)]
      exact Ev.now _
    · rw [List.drop_eq_nil_of_le (by omega), show decide ((x.length : Int) < (y.length : Int)) = false from decide_eq_false (by omega)]
      exact Ev.now _
  | succ d ih =>
    intro m h0 h1 h2
    have hm : m < x.length := by omega
    refine Ev.step (fun k => by rw [spec_l2Before.l0]) (Ev.pos (by omega) (Ev.step (fun k => by rw [spec_l2Before.j1]) ?_))
    rw [List.drop_eq_getElem_cons hm]
    by_cases h : m < y.length
    · refine Ev.pos (decide_eq_true (by omega)) (Ev.pos (by omega) (Ev.pos (by omega) (Ev.pos (by omega) ?_)))
      rw [rd_at x m hm, rd_at y m h, List.drop_eq_getElem_cons h, befL]
      by_cases c : x[m] = y[m]
      · rw [if_pos c, wrap_up hm (by omega)]
        exact Ev.pos c (ih (m + 1) (by omega) (by omega) (by omega))
      · rw [if_neg c]
        exact Ev.neg c (Ev.now _)
    · refine Ev.neg (by rw [decide_eq_false (by omega)]; decide) ?_
      rw [show y.drop m = [] from List.drop_eq_nil_of_le (by omega), show decide ((x.length : Int) < (y.length : Int)) = false from decide_eq_false (by omega)]
      exact Ev.now _
theorem l2Before_ev (x y : List Int) (hx : x.length ≤ 1048576) (hy : y.length ≤ 1048576) : Ev (fun k => spec_l2Before.f k x y) (befL x y) :=
  l2Before_loop x y hx hy x.length 0 (by omega) (Nat.zero_le _) (Nat.zero_le _)
theorem cmpL_bef (x : List Int) : ∀ y, (cmpL x y ≥ 0) ↔ befL x y = false := by
  induction x with
  | nil => intro y; cases y <;> simp [cmpL, befL]
  | cons a x ih =>
    intro y
    cases y with
    | nil => simp [cmpL, befL]
    | cons b y =>
      simp only [cmpL, befL]
      unfold cmpI
      by_cases h : a < b
      · rw [if_pos h, if_neg (by decide), if_neg (by omega), decide_eq_true h]
        simp
      · rw [if_neg h]
        by_cases h2 : a > b
        · rw [if_pos h2, if_neg (by decide), if_neg (by omega), decide_eq_false h]
          simp
        · rw [if_neg h2, if_pos rfl, if_pos (by omega)]
          exact ih y
section
variable (l : List (List Int)) (e : List S64) (h : modS l e)
include h
end
end Go.Proofs.Ythnojbafclglpaa.P
namespace Go.Proofs.Ythnojbafclglpaa.P
open Go.RowKit Go.Proofs.YthnojbafclglpaaW.PrintWords Go.Proofs.YthnojbafclglpaaW.PrintLast Go.Proofs.YthnojbafclglpaaW.PrintMore
set_option linter.unusedVariables false

theorem befL_trans (x : List Int) : ∀ y z, befL x y = true → befL y z = true → befL x z = true := by
  induction x with
  | nil =>
    intro y z h1 h2
    cases y with
    | nil => simp [befL] at h1
    | cons b y => cases z with
      | nil => simp [befL] at h2
      | cons c z => rfl
  | cons a x ih =>
    intro y z h1 h2
    cases y with
    | nil => simp [befL] at h1
    | cons b y => cases z with
      | nil => simp [befL] at h2
      | cons c z =>
        simp only [befL] at h1 h2 ⊢
        by_cases hab : a = b
        · by_cases hbc : b = c
          · rw [if_pos hab] at h1
            rw [if_pos hbc] at h2
            rw [if_pos (hab.trans hbc)]
            exact ih y z h1 h2
          · rw [if_neg hbc, decide_eq_true_eq] at h2
            rw [if_neg (by omega), decide_eq_true_eq]
            omega
        · rw [if_neg hab, decide_eq_true_eq] at h1
          by_cases hbc : b = c
          · rw [if_neg (by omega), decide_eq_true_eq]
            omega
          · rw [if_neg hbc, decide_eq_true_eq] at h2
            rw [if_neg (by omega), decide_eq_true_eq]
            omega
theorem befL_irrefl (x : List Int) : befL x x = false := by
  induction x with
  | nil => rfl
  | cons a x ih => rw [befL, if_pos rfl]; exact ih
theorem befL_asymm {x y : List Int} (h : befL x y = true) : befL y x = false := by
  cases h2 : befL y x with
  | false => rfl
  | true =>
    have := befL_trans x y x h h2
    rw [befL_irrefl] at this
    exact absurd this (by decide)
theorem cmpL_neg (x y : List Int) : cmpL x y < 0 ↔ befL x y = true := by
  have := cmpL_bef x y
  cases h : befL x y with
  | true => rw [h] at this; simp only [Bool.true_eq_false, iff_false, ge_iff_le] at this; simp only [iff_true]; omega
  | false => rw [h] at this; simp only [iff_true, ge_iff_le] at this; simp only [Bool.false_eq_true, iff_false]; omega
end Go.Proofs.Ythnojbafclglpaa.P
namespace Go.Proofs.Ythnojbafclglpaa.P
open Go.RowKit Go.Proofs.YthnojbafclglpaaW.PrintWords Go.Proofs.YthnojbafclglpaaW.PrintLast Go.Proofs.YthnojbafclglpaaW.PrintMore
set_option linter.unusedVariables false

def LexS (l : List (List Int)) : Prop := l.Pairwise (fun x y => befL x y = true)
theorem befL_tri (x : List Int) : ∀ y, befL x y = false → befL y x = false → x = y := by
  induction x with
  | nil =>
    intro y h1 h2
    cases y with
    | nil => rfl
    | cons b y => simp [befL] at h1
  | cons a x ih =>
    intro y h1 h2
    cases y with
    | nil => simp [befL] at h2
    | cons b y =>
      simp only [befL] at h1 h2
      by_cases c : a = b
      · subst c
        rw [if_pos rfl] at h1 h2
        rw [ih y h1 h2]
      · rw [if_neg c, decide_eq_false_iff_not] at h1
        rw [if_neg (fun h => c h.symm), decide_eq_false_iff_not] at h2
        omega
/-- What is strictly in order is told by what it holds. -/
theorem strict_unique {α : Type} {lt : α → α → Bool} (hi : ∀ x, lt x x = false) (ha : ∀ x y, lt x y = true → lt y x = false) (l1 : List α) : ∀ l2, l1.Pairwise (fun x y => lt x y = true) → l2.Pairwise (fun x y => lt x y = true) → (∀ s, s ∈ l1 ↔ s ∈ l2) → l1 = l2 := by
  induction l1 with
  | nil =>
    intro l2 _ _ h
    cases l2 with
    | nil => rfl
    | cons b u => exact absurd ((h b).2 (List.mem_cons_self ..)) (by simp)
  | cons a t ih =>
    intro l2 h1 h2 h
    cases l2 with
    | nil => exact absurd ((h a).1 (List.mem_cons_self ..)) (by simp)
    | cons b u =>
      have p1 := List.pairwise_cons.1 h1
      have p2 := List.pairwise_cons.1 h2
      have hab : a = b := by
        rcases List.mem_cons.1 ((h a).1 (List.mem_cons_self ..)) with e | e
        · exact e
        · rcases List.mem_cons.1 ((h b).2 (List.mem_cons_self ..)) with e2 | e2
          · exact e2.symm
          · have := ha _ _ (p1.1 b e2)
            rw [p2.1 a e] at this
            exact absurd this (by decide)
      subst hab
      rw [ih u p1.2 p2.2 fun s => ?_]
      constructor
      · intro hs
        rcases List.mem_cons.1 ((h s).1 (List.mem_cons_of_mem _ hs)) with e | e
        · subst e
          have := p1.1 s hs
          rw [hi] at this
          exact absurd this (by decide)
        · exact e
      · intro hs
        rcases List.mem_cons.1 ((h s).2 (List.mem_cons_of_mem _ hs)) with e | e
        · subst e
          have := p2.1 s hs
          rw [hi] at this
          exact absurd this (by decide)
        · exact e
theorem lex_unique (l1 l2 : List (List Int)) (h1 : LexS l1) (h2 : LexS l2) (h : ∀ s, s ∈ l1 ↔ s ∈ l2) : l1 = l2 :=
  strict_unique befL_irrefl (fun _ _ h => befL_asymm h) l1 l2 h1 h2 h
def sortLL (ls : List (List Int)) : List (List Int) := ls.mergeSort (fun x y => !befL y x)
theorem sortLL_len (ls : List (List Int)) : (sortLL ls).length = ls.length := List.length_mergeSort ls
theorem sortLL_mem (ls : List (List Int)) (s : List Int) : s ∈ sortLL ls ↔ s ∈ ls := List.mem_mergeSort
theorem befL_ntrans {x y z : List Int} (h1 : befL x y = false) (h2 : befL y z = false) : befL x z = false := by
  cases h : befL x z with
  | false => rfl
  | true =>
    cases h3 : befL y x with
    | true =>
      have := befL_trans y x z h3 h
      rw [h2] at this
      exact absurd this (by decide)
    | false =>
      have := befL_tri x y h1 h3
      subst this
      rw [h2] at h
      exact absurd h (by decide)
theorem sortLL_lex (ls : List (List Int)) (h : ls.Nodup) : LexS (sortLL ls) := by
  have h1 : (sortLL ls).Pairwise (fun x y => (!befL y x) = true) := List.pairwise_mergeSort
    (fun x y z h1 h2 => by
      rw [Bool.not_eq_true'] at *
      exact befL_ntrans h2 h1)
    (fun x y => by
      cases c : befL y x with
      | false => rfl
      | true => rw [befL_asymm c]; rfl) ls
  have h2 : (sortLL ls).Nodup := (List.mergeSort_perm ls _).nodup_iff.2 h
  unfold LexS
  refine List.Pairwise.imp ?_ (List.pairwise_and_iff.2 ⟨h1, h2⟩)
  rintro x y ⟨h3, h4⟩
  rw [Bool.not_eq_true'] at h3
  cases c : befL x y with
  | true => rfl
  | false => exact absurd (befL_tri x y c h3) h4
theorem LexS.nodup {l : List (List Int)} (h : LexS l) : l.Nodup := h.imp fun {x y} hxy e => by
  subst e
  rw [befL_irrefl] at hxy
  exact absurd hxy (by decide)
end Go.Proofs.Ythnojbafclglpaa.P
namespace Go.Proofs.Ythnojbafclglpaa.P
open Go.RowKit Go.Proofs.YthnojbafclglpaaW.PrintWords Go.Proofs.YthnojbafclglpaaW.PrintLast Go.Proofs.YthnojbafclglpaaW.PrintMore
attribute [local go_sem] max2_int min2_int max_two min_two max_three min_three max_four min_four   -- for this text's walks alone
set_option linter.unusedVariables false
set_option linter.unusedSimpArgs false

theorem eqIt_cons64 {d : Nat} {e c : Nat} {xs ys : Array Value} {i : Nat} {is : List Nat} {a b : Value} {r s : Bool} {w : World} (ha : (part e xs (i * c)).run Try.prog w = .ok a w) (hb : (part e ys (i * c)).run Try.prog w = .ok b w) (he : (Op.equalIn d e a b).run Try.prog w = .ok r w) (hr : (Op.eqItems d e c xs ys is).run Try.prog w = .ok s w) : (Op.eqItems d e c xs ys (i :: is)).run Try.prog w = .ok (r && s) w := by
 rw [Op.eqItems]
 simp only [Sem.run_bind, ha, hb, he, Result.andThen_ok]
 cases r
 · simp
 · simpa using hr
theorem eqIt_last64 {d : Nat} {e c : Nat} {xs ys : Array Value} {i : Nat} {a b : Value} {r : Bool} {w : World} (ha : (part e xs (i * c)).run Try.prog w = .ok a w) (hb : (part e ys (i * c)).run Try.prog w = .ok b w) (he : (Op.equalIn d e a b).run Try.prog w = .ok r w) : (Op.eqItems d e c xs ys [i]).run Try.prog w = .ok r w := by
 have h := eqIt_cons64 (is := []) (s := true) ha hb he (by simp [Op.eqItems])
 rwa [Bool.and_true] at h
theorem eqA64 (d : Nat) (w : World) (x0 x1 y0 y1 : Int) :
 (Op.equalIn (d + 2) 64 (.agg #[.int .i64 x0, .int .i64 x1]) (.agg #[.int .i64 y0, .int .i64 y1])).run Try.prog w = .ok (x0 == y0 && (x1 == y1)) w := by
 obtain ⟨i_, hi_⟩ := Option.isSome_iff_exists.1 (by kernel_rfl : (Try.prog.info? 3).isSome = true)
 rw [show d + 2 = (d + 1) + 1 from rfl, run_equalIn_array w (d + 1) _ _ Try.underlying64 hi_, show Try.prog.cellsOf 3 = 1 from by kernel_rfl, show List.range 2 = [0, 1] from rfl]
 refine eqIt_cons64 (by go_simp; rfl) (by go_simp; rfl) (by go_simp) ?_
 exact eqIt_last64 (by go_simp; rfl) (by go_simp; rfl) (by go_simp)
end Go.Proofs.Ythnojbafclglpaa.P
namespace Go.Proofs.Ythnojbafclglpaa.P
open Go.RowKit Go.Proofs.YthnojbafclglpaaW.PrintWords Go.Proofs.YthnojbafclglpaaW.PrintLast Go.Proofs.YthnojbafclglpaaW.PrintMore
attribute [local go_sem] max2_int min2_int max_two min_two max_three min_three max_four min_four   -- for this text's walks alone
set_option linter.unusedVariables false
set_option linter.unusedSimpArgs false

/-! ### impl_pair: function 109 -/
def impl_pair.f (a0 : Int) (a1 : Int) : Option (Int × Int) := some (mn a0 a1, mx a0 a1)
set_option maxHeartbeats 8000000 in
set_option maxRecDepth 100000 in
theorem impl_pair.calls (a0 : Int) (a1 : Int) (r1 : Int) (r2 : Int) (w : World) (h : impl_pair.f a0 a1 = some (r1, r2)) :
 Calls Try.prog 109 #[.int .i64 a0, .int .i64 a1] w fun e w' => e = .returned (.agg #[.int .i64 r1, .int .i64 r2]) ∧ Below w.heap.size w w' := by
 have hu64 := Try.underlying64
 have HB := zM (Below.refl w.heap.size w)
 have H : (some (mn a0 a1, mx a0 a1)) = some (r1, r2) := h
 clear h
 obtain ⟨ji3, hji3⟩ : ∃ j_ : Int, (mn a0 a1) = j_ := ⟨_, rfl⟩
 replace H : (some (ji3, mx a0 a1)) = some (r1, r2) := by first | (rw [hji3] at H; exact H) | (simp only [hji3] at H ⊢; exact H)
 have hji3_ : (if a1 < a0 then a1 else a0) = ji3 := hji3
 obtain ⟨ji4, hji4⟩ : ∃ j_ : Int, (mx a0 a1) = j_ := ⟨_, rfl⟩
 replace H : (some (ji3, ji4)) = some (r1, r2) := by first | (rw [hji4] at H; exact H) | (simp only [hji4] at H ⊢; exact H)
 have hji4_ : (if a0 < a1 then a1 else a0) = ji4 := hji4
 simp only [Option.some.injEq, Prod.mk.injEq] at H
 obtain ⟨rfl, rfl⟩ := H
 go_enter Try.func109, Try.ntmps109
 go_wp2_with (first | ((with_reducible refine gate_dst (N := 4) rfl ?_); refine zb (w := w) 4 #[.int .i64 0, .int .i64 0] 64 zB ?_; clear HB; intro gb108 w5 HB BK108 GW108; have GE108 := GW108; have hcz6_0 := zy BK108 0; have hcz6_1 := zy BK108 1; have hfz6_0 := blk_frozen BK108.out 0; have hfz6_1 := blk_frozen BK108.out 1))
 refine bodyPost_ret (results_cell_row rfl _ _ gb108 64 #[.int .i64 ji3, .int .i64 ji4] (0, 0) _ rfl (by (with_reducible repeat (first | refine blk_drewN ?_ _ | refine blk_drew ?_ | refine blk_alloc ?_ _)); refine blk_put (cs := #[.int .i64 ji3, .int .i64 0]) ?_ 1 _ rfl; (with_reducible repeat (first | refine blk_drewN ?_ _ | refine blk_drew ?_ | refine blk_alloc ?_ _)); refine blk_put (cs := #[.int .i64 0, .int .i64 0]) ?_ 0 _ rfl; (with_reducible repeat (first | refine blk_drewN ?_ _ | refine blk_drew ?_ | refine blk_alloc ?_ _)); exact BK108.out) Try.underlying64 rfl (by kernel_rfl)) rfl ?_
 exact ⟨by first | rfl | (simp [errW_none, errW_some] <;> rfl) | (simp only [← hji3, ← hji4]; first | rfl | (simp [errW_none, errW_some] <;> rfl)) | (simp [*, errW_none, errW_some] <;> rfl), zB⟩

end Go.Proofs.Ythnojbafclglpaa.P
namespace Go.Proofs.Ythnojbafclglpaa.P
open Go.RowKit Go.Proofs.YthnojbafclglpaaW.PrintWords Go.Proofs.YthnojbafclglpaaW.PrintLast Go.Proofs.YthnojbafclglpaaW.PrintMore
attribute [local go_sem] max2_int min2_int max_two min_two max_three min_three max_four min_four   -- for this text's walks alone
set_option linter.unusedVariables false
set_option linter.unusedSimpArgs false

attribute [local go_sem high] eqA64
/-! ### slices_Index_2_int_2_int: function 243 -/
def slices_Index_2_int_2_int.l0 : Nat → List (S64) → Int → Int → Int → Int → Option (Int)
 | 0, _, _, _, _, _ => none
 | k + 1, x0, x7, x8, x110000, x110001 => if x8 < x7 then (if 0 ≤ x8 then (if x8 < (x0.length : Int) then (if (x110000 == ((rd_T64 x0 x8).f0) && (x110001 == ((rd_T64 x0 x8).f1))) = true then (some x8) else (slices_Index_2_int_2_int.l0 k x0 x7 (wrap64 (x8 + 1)) x110000 x110001)) else (none)) else (none)) else (some (-1))
def slices_Index_2_int_2_int.f (k : Nat) (l0 : List (S64)) (a1_0 : Int) (a1_1 : Int) : Option (Int) := slices_Index_2_int_2_int.l0 k l0 (l0.length : Int) 0 a1_0 a1_1
set_option maxHeartbeats 8000000 in
set_option maxRecDepth 100000 in
theorem slices_Index_2_int_2_int.calls (k : Nat) (A0 : Option Addr) (c0 : Nat) (l0 : List (S64)) (a1_0 : Int) (a1_1 : Int) (r : Int) (w : World) (hr0 : Kd.C k64 w A0 l0.length l0) (hc0 : l0.length ≤ c0) (h : slices_Index_2_int_2_int.f k l0 a1_0 a1_1 = some r) :
 Calls Try.prog 243 #[.slice A0 l0.length c0, .agg #[.int .i64 a1_0, .int .i64 a1_1]] w fun e w' => e = .returned (.int .i64 r) ∧ Below w.heap.size w w' := by
 have hu64 := Try.underlying64
 have HR0 := Aside0.mk hr0
 have HC0 := Aside0.mk hc0
 clear hr0 hc0
 have HB := zM (Below.refl w.heap.size w)
 have H : (slices_Index_2_int_2_int.l0 k l0 (l0.length : Int) 0 a1_0 a1_1) = some r := h
 clear h
 have H' := Aside0.mk H
 clear H
 go_enter Try.func243, Try.ntmps243
 go_wp2_with (first | ((with_reducible refine gate_dst (N := 3) rfl ?_); refine zb (w := w) 3 #[.int .i64 a1_0, .int .i64 a1_1] 64 zB ?_; clear HB; intro gb109 w3 HB BK109 GW109; have GE109 := GW109))
 repeat (go_quiet (first | ((with_reducible refine gate_dst (N := 3) rfl ?_); refine zb (w := w) 3 #[.int .i64 a1_0, .int .i64 a1_1] 64 zB ?_; clear HB; intro gb109 w3 HB BK109 GW109; have GE109 := GW109)); try go_wp2_with (first | ((with_reducible refine gate_dst (N := 3) rfl ?_); refine zb (w := w) 3 #[.int .i64 a1_0, .int .i64 a1_1] 64 zB ?_; clear HB; intro gb109 w3 HB BK109 GW109; have GE109 := GW109)))
 go_loopg [8] k (fun kq v8 w' => ∃ (x8_1 : Int), v8 = .int .i64 x8_1 ∧ Aside0 (slices_Index_2_int_2_int.l0 kq l0 (l0.length : Int) x8_1 a1_0 a1_1 = some r) ∧ Aside0 (kq ≤ k) ∧ Aside0 (w'.heap[gb109]? = some (.cells #[.int .i64 a1_0, .int .i64 a1_1] 64 (0, 0))) ∧ Aside0 (Below w.heap.size w w'))
 case atStart => exact ⟨(0), (by first | rfl | (simp; done) | (simp [*]; done)), H', ⟨Nat.le_refl _⟩, ⟨zK BK109.out⟩, ⟨zB⟩⟩
 case round =>
  clear H'
  try clear c2
  try clear p2
  obtain ⟨x8_1, rfl, HA, HK1, BK109, HB⟩ := hrel
  cases gk with
  | zero => exact absurd HA.out (by simp [slices_Index_2_int_2_int.l0])
  | succ k1 =>
   have H := HA.out
   clear HA
   simp only [slices_Index_2_int_2_int.l0] at H
   by_cases c4 : x8_1 < (l0.length : Int)
   · rw [if_pos c4] at H
     have c4b0 := decide_eq_true c4
     clear c4
     by_cases c5 : 0 ≤ x8_1
     · rw [if_pos c5] at H
       have c5b0 := decide_eq_true c5
       clear c5
       by_cases c6 : x8_1 < (l0.length : Int)
       · rw [if_pos c6] at H
         have c6b0 := decide_eq_true c6
         clear c6
         by_cases c7 : (a1_0 == ((rd_T64 l0 x8_1).f0) && (a1_1 == ((rd_T64 l0 x8_1).f1))) = true
         · rw [if_pos c7] at H
           have c7b0 : (a1_0 == ((rd_T64 l0 x8_1).f0) && (a1_1 == ((rd_T64 l0 x8_1).f1))) = true := c7
           (try (have c7b1 : decide (a1_0 = ((rd_T64 l0 x8_1).f0) && (a1_1 == ((rd_T64 l0 x8_1).f1))) = true := by simpa using c7))
           (try (have c7b2 : (a1_0 == ((rd_T64 l0 x8_1).f0) && (a1_1 == ((rd_T64 l0 x8_1).f1))) = true := by simpa using c7))
           clear c7
           obtain rfl := Option.some.inj H
           have hcz8_0 := zy BK109 0
           have hcz8_1 := zy BK109 1
           have hfz8_0 := blk_frozen BK109.out 0
           have hfz8_1 := blk_frozen BK109.out 1
           have p110 : 0 ≤ (x8_1 : Int) := of_decide_eq_true zA
           have q110 : x8_1 < (l0.length : Int) := of_decide_eq_true zA
           obtain ⟨ad110, e110, hx110_0, hx110_1⟩ := at_T64 HR0.out x8_1 p110 q110
           cases e110
           (try replace hx110_0 := (HB.out.cell (World.block_lt_of_cell? w _ hx110_0)).trans hx110_0)
           (try replace hx110_1 := (HB.out.cell (World.block_lt_of_cell? w _ hx110_1)).trans hx110_1)
           replace p110 := eq_true p110
           replace q110 := eq_true q110
           go_wp2
           repeat (go_quiet (fail); try go_wp2)
           go_ret
           exact ⟨by first | rfl | (simp [errW_none, errW_some] <;> rfl) | (simp [*, errW_none, errW_some] <;> rfl), zB⟩
         · rw [if_neg c7] at H
           have c7b0 : (a1_0 == ((rd_T64 l0 x8_1).f0) && (a1_1 == ((rd_T64 l0 x8_1).f1))) = false := by simpa using c7
           (try (have c7b1 : decide (a1_0 = ((rd_T64 l0 x8_1).f0) && (a1_1 == ((rd_T64 l0 x8_1).f1))) = false := by simpa using c7))
           (try (have c7b2 : (a1_0 == ((rd_T64 l0 x8_1).f0) && (a1_1 == ((rd_T64 l0 x8_1).f1))) = false := by simpa using c7))
           (try (have c7b3 : ¬ (a1_0 = ((rd_T64 l0 x8_1).f0) && (a1_1 == ((rd_T64 l0 x8_1).f1))) := by simpa using c7))
           clear c7
           have H' := Aside0.mk H
           clear H
           have hcz9_0 := zy BK109 0
           have hcz9_1 := zy BK109 1
           have hfz9_0 := blk_frozen BK109.out 0
           have hfz9_1 := blk_frozen BK109.out 1
           have p110 : 0 ≤ (x8_1 : Int) := of_decide_eq_true zA
           have q110 : x8_1 < (l0.length : Int) := of_decide_eq_true zA
           obtain ⟨ad110, e110, hx110_0, hx110_1⟩ := at_T64 HR0.out x8_1 p110 q110
           cases e110
           (try replace hx110_0 := (HB.out.cell (World.block_lt_of_cell? w _ hx110_0)).trans hx110_0)
           (try replace hx110_1 := (HB.out.cell (World.block_lt_of_cell? w _ hx110_1)).trans hx110_1)
           replace p110 := eq_true p110
           replace q110 := eq_true q110
           go_wp2
           repeat (go_quiet (fail); try go_wp2)
           go_roundg k1
           case measure => have := HK1.out; omega
           case rel => exact ⟨(wrap64 (x8_1 + 1)), (by first | rfl | (simp; done) | (simp [*]; done)), H', ⟨by have := HK1.out; omega⟩, ⟨zK BK109.out⟩, ⟨zB⟩⟩
       · rw [if_neg c6] at H
         exact absurd H (by simp)
     · rw [if_neg c5] at H
       exact absurd H (by simp)
   · rw [if_neg c4] at H
     have c4b0 : decide (x8_1 < (l0.length : Int)) = false := decide_eq_false c4
     clear c4
     obtain rfl := Option.some.inj H
     go_wp2
     repeat (go_quiet (fail); try go_wp2)
     go_ret
     exact ⟨by first | rfl | (simp [errW_none, errW_some] <;> rfl) | (simp [*, errW_none, errW_some] <;> rfl), zB⟩

/-! ### slices_Contains_2_int_2_int: function 236 -/
def slices_Contains_2_int_2_int.f (k : Nat) (l0 : List (S64)) (a1_0 : Int) (a1_1 : Int) : Option (Bool) := (slices_Index_2_int_2_int.f k l0 a1_0 a1_1).bind fun t112 => (some (decide (t112 ≥ 0)))
set_option maxHeartbeats 8000000 in
set_option maxRecDepth 100000 in
theorem slices_Contains_2_int_2_int.calls (k : Nat) (A0 : Option Addr) (c0 : Nat) (l0 : List (S64)) (a1_0 : Int) (a1_1 : Int) (r : Bool) (w : World) (hr0 : Kd.C k64 w A0 l0.length l0) (hc0 : l0.length ≤ c0) (h : slices_Contains_2_int_2_int.f k l0 a1_0 a1_1 = some r) :
 Calls Try.prog 236 #[.slice A0 l0.length c0, .agg #[.int .i64 a1_0, .int .i64 a1_1]] w fun e w' => e = .returned (.bool r) ∧ Below w.heap.size w w' := by
 have hu64 := Try.underlying64
 have HR0 := Aside0.mk hr0
 have HC0 := Aside0.mk hc0
 clear hr0 hc0
 have HB := zM (Below.refl w.heap.size w)
 have H : ((slices_Index_2_int_2_int.f k l0 a1_0 a1_1).bind fun t112 => (some (decide (t112 ≥ 0)))) = some r := h
 clear h
 replace H := Option.bind_eq_some_iff.mp H
 obtain ⟨t112, A30, H⟩ := H
 have A3 := Aside0.mk A30
 clear A30
 obtain rfl := Option.some.inj H
 go_enter Try.func236, Try.ntmps236
 go_wp2_with (first | ((with_reducible refine gate_dst (N := 3) rfl ?_); refine zb (w := w) 3 #[.int .i64 a1_0, .int .i64 a1_1] 64 zB ?_; clear HB; intro gb111 w4 HB BK111 GW111; have GE111 := GW111; have hcz5_0 := zy BK111 0; have hcz5_1 := zy BK111 1; have hfz5_0 := blk_frozen BK111.out 0; have hfz5_1 := blk_frozen BK111.out 1) | ((with_reducible refine gate_callee (f := 243) rfl ?_); refine zc 7 Try.func243 #[.slice A0 l0.length c0, .agg #[.int .i64 a1_0, .int .i64 a1_1]] ?_; (with_reducible refine (slices_Index_2_int_2_int.calls k _ _ l0 a1_0 a1_1 t112 _ ?side1 ?side2 A3.out).mono ?_); (case side1 => exact zC (Kd.C_below HR0.out HB.out)); (case side2 => exact HC0.out); rintro e w6 ⟨rfl, hb⟩; refine ⟨_, rfl, ?_⟩; replace BK111 := zM (blk_below (g := gb111) (o := .cells #[.int .i64 a1_0, .int .i64 a1_1] 64 (0, 0)) (zK BK111.out) hb); replace HB := zM (below_step zB hb); (try clear hb); (try clear hb2); (try clear hk); (try clear hi)))
 go_ret
 exact ⟨by first | rfl | (simp [errW_none, errW_some] <;> rfl) | (simp [*, errW_none, errW_some] <;> rfl), zB⟩

/-! ### impl_Graph_has: function 210 -/
def impl_Graph_has.f (k : Nat) (a0_0 : Int) (l0_1 : List (S64)) (a1 : Int) (a2 : Int) : Option (Bool) := (impl_pair.f a1 a2).bind fun bt114 => ((slices_Contains_2_int_2_int.f k l0_1 bt114.1 bt114.2).bind fun t116 => (some t116))
set_option maxHeartbeats 8000000 in
set_option maxRecDepth 100000 in
theorem impl_Graph_has.calls (k : Nat) (a0_0 : Int) (A0_1 : Option Addr) (c0_1 : Nat) (l0_1 : List (S64)) (a1 : Int) (a2 : Int) (r : Bool) (w : World) (hr0_1 : Kd.C k64 w A0_1 l0_1.length l0_1) (hc0_1 : l0_1.length ≤ c0_1) (h : impl_Graph_has.f k a0_0 l0_1 a1 a2 = some r) :
 Calls Try.prog 210 #[.agg #[.int .i64 a0_0, .slice A0_1 l0_1.length c0_1], .int .i64 a1, .int .i64 a2] w fun e w' => e = .returned (.bool r) ∧ Below w.heap.size w w' := by
 have hu43 := Try.underlying43
 have HR0_1 := Aside0.mk hr0_1
 have HC0_1 := Aside0.mk hc0_1
 clear hr0_1 hc0_1
 have HB := zM (Below.refl w.heap.size w)
 have H : ((impl_pair.f a1 a2).bind fun bt114 => ((slices_Contains_2_int_2_int.f k l0_1 bt114.1 bt114.2).bind fun t116 => (some t116))) = some r := h
 clear h
 replace H := Option.bind_eq_some_iff.mp H
 obtain ⟨⟨t114, t115⟩, A40, H⟩ := H
 replace H : ((slices_Contains_2_int_2_int.f k l0_1 t114 t115).bind fun t116 => (some t116)) = some r := H
 have A4 := Aside0.mk A40
 clear A40
 replace H := Option.bind_eq_some_iff.mp H
 obtain ⟨t116, A50, H⟩ := H
 have A5 := Aside0.mk A50
 clear A50
 obtain rfl := Option.some.inj H
 go_enter Try.func210, Try.ntmps210
 try go_wp2_with (first | ((with_reducible refine gate_dst (N := 3) rfl ?_); refine zb (w := w) 3 #[.int .i64 a0_0, .slice A0_1 l0_1.length c0_1] 43 zB ?_; clear HB; intro gb113 w6 HB BK113 GW113; have GE113 := GW113))
 replace BK113 := zM (blk_drew BK113.out)
 replace HB := zM (below_drew1 HB.out)
 refine zs (n := 7) (fun w' => w'.cell? ⟨gb113, 0, none⟩ = some (.int .i64 a0_0) ∧ w'.cell? ⟨gb113, 1, none⟩ = some (.slice A0_1 l0_1.length c0_1)) ⟨(blk_cell BK113.out 0).trans rfl, (blk_cell BK113.out 1).trans rfl⟩ (fun hHeld => ?_)
 generalize w6.drew = w7 at BK113 HB hHeld ⊢
 refine zq 0 7 ?_
 refine zq 2 9 ?_
 refine zq 3 10 ?_
 refine zl 1 8 hHeld ?_ (hy := by rintro w' ⟨s0, s1⟩; go_simp; with_reducible rfl)
 refine zh 4 11 Try.func109 #[.int .i64 a1, .int .i64 a2] (fun K hK => ?_)
 with_reducible refine (impl_pair.calls a1 a2 t114 t115 _ A4.out).mono ?_
 rintro e w8 ⟨rfl, hb⟩
 refine ⟨_, rfl, ?_⟩
 replace BK113 := zM (blk_below (g := gb113) (o := .cells #[.int .i64 a0_0, .slice A0_1 l0_1.length c0_1] 43 (0, 0)) (zK BK113.out) hb)
 replace HB := zM (below_step zB hb)
 (try clear hb)
 (try clear hb2)
 (try clear hk)
 (try clear hi)
 refine hK.out _ _ ⟨(blk_cell BK113.out 0).trans rfl, (blk_cell BK113.out 1).trans rfl⟩ (fun hHeld => ?_)
 clear hK K
 refine zn 11 ?_
 refine zh 5 12 Try.func236 #[.slice A0_1 l0_1.length c0_1, .agg #[.int .i64 t114, .int .i64 t115]] (fun K hK => ?_)
 with_reducible refine (slices_Contains_2_int_2_int.calls k _ _ l0_1 t114 t115 t116 _ ?side1 ?side2 A5.out).mono ?_
 (case side1 => exact zC (Kd.C_below HR0_1.out HB.out))
 (case side2 => exact HC0_1.out)
 rintro e w9 ⟨rfl, hb⟩
 refine ⟨_, rfl, ?_⟩
 replace BK113 := zM (blk_below (g := gb113) (o := .cells #[.int .i64 a0_0, .slice A0_1 l0_1.length c0_1] 43 (0, 0)) (zK BK113.out) hb)
 replace HB := zM (below_step zB hb)
 (try clear hb)
 (try clear hb2)
 (try clear hk)
 (try clear hi)
 refine hK.out _ _ ⟨(blk_cell BK113.out 0).trans rfl, (blk_cell BK113.out 1).trans rfl⟩ (fun hHeld => ?_)
 clear hK K
 refine zn 12 ?_
 refine zq 6 6 ?_
 refine zx ?_
 try go_wp2
 go_ret
 exact ⟨by first | rfl | (simp [errW_none, errW_some] <;> rfl) | (simp [*, errW_none, errW_some] <;> rfl), zB⟩

end Go.Proofs.Ythnojbafclglpaa.P
namespace Go.Proofs.Ythnojbafclglpaa.P
open Go.RowKit Go.Proofs.YthnojbafclglpaaW.PrintWords Go.Proofs.YthnojbafclglpaaW.PrintLast Go.Proofs.YthnojbafclglpaaW.PrintMore
set_option linter.unusedVariables false
set_option linter.unusedSimpArgs false

/-! Marks are held, and counted from 0 on. -/
theorem mark2_fst (l : List S64) : ∀ (k : Int), 0 ≤ k → k + 2 * (l.length : Int) ≤ 4611686018427387904 → (mark2 l k).1 = k + 2 * (l.length : Int) := by
  induction l with
  | nil => intro k h1 h2; simp [mark2]
  | cons e t ih =>
    intro k h1 h2
    simp only [List.length_cons] at h2 ⊢
    simp only [mark2]
    have e1 : wrap64 (k + 1) = k + 1 := wrap_nat (by omega) (by omega)
    have e2 : wrap64 (k + 1 + 1) = k + 1 + 1 := wrap_nat (by omega) (by omega)
    rw [e1, e2, ih (k + 1 + 1) (by omega) (by omega)]
    omega
theorem markGraph_at (a : Int) (l : List S64) (k : Int) : laws_markGraph.f a l k = some ((mark2 l k).1, (mark2 l k).2) := rfl
theorem mark1_pos (l : List S64) (hl : l.length ≤ 1048576) : ¬ (mark2 l 1).1 < 0 := by rw [mark2_fst l 1 (by omega) (by omega)]; omega
/-! What a valid graph gives. -/
theorem goodP_all (n : Int) (l : List S64) : ∀ p, goodP n p l = true → ∀ e ∈ l, 0 ≤ e.f0 ∧ e.f0 < e.f1 ∧ e.f1 < n := by
  induction l with
  | nil => intro p h e he; simp at he
  | cons x t ih =>
    intro p h e he
    simp only [goodP, Bool.and_eq_true, decide_eq_true_eq] at h
    obtain ⟨⟨⟨h1, h2⟩, h3⟩, h4, h5⟩ := h
    rcases List.mem_cons.1 he with rfl | he
    · exact ⟨h1, h2, h3⟩
    · exact ih _ h5 e he
theorem okG_all {a : Int} {l : List S64} (h : okG a l = true) : 0 ≤ a ∧ a ≤ 8 ∧ ∀ e ∈ l, 0 ≤ e.f0 ∧ e.f0 < e.f1 ∧ e.f1 < a := by
  simp only [okG, Bool.and_eq_true, decide_eq_true_eq] at h
  exact ⟨h.1.1, h.1.2, goodP_all a l none h.2⟩
/-- Two nodes are neighbours. -/
def hasP (l : List S64) (x y : Int) : Bool := l.any fun e => (decide (e.f0 = x) && decide (e.f1 = y)) || (decide (e.f0 = y) && decide (e.f1 = x))
theorem near_loop (a : Int) (l : List S64) (x y : Int) (hl : l.length ≤ 1048576) (d : Nat) : ∀ (m : Nat), l.length - m = d → m ≤ l.length →
    Ev (fun k => spec_l2Near.l0 k x y (m : Int) a l) (hasP (l.drop m) x y) := by
  induction d with
  | zero =>
    intro m h0 h1
    refine Ev.step (fun k => by rw [spec_l2Near.l0]) ?_
    rw [List.drop_eq_nil_of_le (by omega)]
    exact Ev.neg (by omega) (Ev.now _)
  | succ d ih =>
    intro m h0 h1
    have hm : m < l.length := by omega
    refine Ev.step (fun k => by rw [spec_l2Near.l0]) ?_
    refine Ev.pos (by omega) (Ev.pos (by omega) ?_)
    have ihm := ih (m + 1) (by omega) (by omega)
    rw [← wrap_up hm (by omega)] at ihm
    rw [rdT_at l m hm, List.drop_eq_getElem_cons hm]
    simp only [hasP, List.any_cons] at ihm ⊢
    generalize (l.drop (m + 1)).any _ = R at ihm ⊢
    by_cases c1 : l[m].f0 = x
    · refine Ev.pos c1 ?_
      by_cases c2 : l[m].f1 = y
      · refine Ev.pos c2 ?_
        rw [decide_eq_true c1, decide_eq_true c2]
        exact Ev.now _
      · refine Ev.neg c2 ?_
        rw [decide_eq_false c2, Bool.and_false, Bool.false_or]
        by_cases c3 : l[m].f0 = y
        · refine Ev.pos c3 ?_
          by_cases c4 : l[m].f1 = x
          · refine Ev.pos c4 ?_
            rw [decide_eq_true c3, decide_eq_true c4]
            exact Ev.now _
          · refine Ev.neg c4 ?_
            rw [decide_eq_false c4, Bool.and_false, Bool.false_or]
            exact ihm
        · refine Ev.neg c3 ?_
          rw [decide_eq_false c3, Bool.false_and, Bool.false_or]
          exact ihm
    · refine Ev.neg c1 ?_
      rw [decide_eq_false c1, Bool.false_and, Bool.false_or]
      by_cases c3 : l[m].f0 = y
      · refine Ev.pos c3 ?_
        by_cases c4 : l[m].f1 = x
        · refine Ev.pos c4 ?_
          rw [decide_eq_true c3, decide_eq_true c4]
          exact Ev.now _
        · refine Ev.neg c4 ?_
          rw [decide_eq_false c4, Bool.and_false, Bool.false_or]
          exact ihm
      · refine Ev.neg c3 ?_
        rw [decide_eq_false c3, Bool.false_and, Bool.false_or]
        exact ihm
theorem near_ev (a : Int) (l : List S64) (x y : Int) (hl : l.length ≤ 1048576) : Ev (fun k => spec_l2Near.f k a l x y) (hasP l x y) :=
  near_loop a l x y hl l.length 0 (by omega) (Nat.zero_le _)
theorem index_loop (l : List S64) (p q : Int) (hl : l.length ≤ 1048576) (d : Nat) : ∀ (m : Nat), l.length - m = d → m ≤ l.length →
    ∃ i : Int, (decide (i ≥ 0)) = ((l.drop m).any fun e => p == e.f0 && q == e.f1) ∧ Ev (fun k => slices_Index_2_int_2_int.l0 k l (l.length : Int) (m : Int) p q) i := by
  induction d with
  | zero =>
    intro m h0 h1
    refine ⟨-1, by rw [List.drop_eq_nil_of_le (by omega)]; rfl, Ev.step (fun k => by rw [slices_Index_2_int_2_int.l0]) ?_⟩
    exact Ev.neg (by omega) (Ev.now _)
  | succ d ih =>
    intro m h0 h1
    have hm : m < l.length := by omega
    obtain ⟨i, hi, ihm⟩ := ih (m + 1) (by omega) (by omega)
    rw [← wrap_up hm (by omega)] at ihm
    rw [List.drop_eq_getElem_cons hm, List.any_cons, ← hi]
    cases hc : (p == l[m].f0 && q == l[m].f1) with
    | true =>
      refine ⟨(m : Int), by simp, Ev.step (fun k => by rw [slices_Index_2_int_2_int.l0]) ?_⟩
      refine Ev.pos (by omega) (Ev.pos (by omega) (Ev.pos (by omega) ?_))
      rw [rdT_at l m hm]
      exact Ev.pos hc (Ev.now _)
    | false =>
      refine ⟨i, by simp, Ev.step (fun k => by rw [slices_Index_2_int_2_int.l0]) ?_⟩
      refine Ev.pos (by omega) (Ev.pos (by omega) (Ev.pos (by omega) ?_))
      rw [rdT_at l m hm]
      exact Ev.neg (by rw [hc]; decide) ihm
theorem any_congr {α : Type} (l : List α) (f g : α → Bool) (h : ∀ e ∈ l, f e = g e) : l.any f = l.any g := by
  induction l with
  | nil => rfl
  | cons x t ih => rw [List.any_cons, List.any_cons, h x (List.mem_cons_self ..), ih fun e he => h e (List.mem_cons_of_mem _ he)]
theorem has_ev (a : Int) (l : List S64) (x y : Int) (hl : l.length ≤ 1048576) (hu : ∀ e ∈ l, e.f0 < e.f1) : Ev (fun k => impl_Graph_has.f k a l x y) (hasP l x y) := by
  unfold impl_Graph_has.f slices_Contains_2_int_2_int.f slices_Index_2_int_2_int.f
  obtain ⟨i, hi, h⟩ := index_loop l (mn x y) (mx x y) hl l.length 0 (by omega) (Nat.zero_le _)
  refine Ev.bindo rfl ?_
  refine Ev.bind (Ev.bind h (Ev.now _)) ?_
  have : hasP l x y = decide (i ≥ 0) := by
    rw [hi, List.drop_zero]
    unfold hasP
    refine any_congr l _ _ fun e he => ?_
    have := hu e he
    unfold mn mx
    by_cases c : y < x
    · have c2 : ¬ x < y := by omega
      rw [if_pos c, if_neg c2]
      rw [Bool.eq_iff_iff]
      simp only [Bool.or_eq_true, Bool.and_eq_true, decide_eq_true_eq, beq_iff_eq]
      omega
    · rw [if_neg c]
      by_cases c2 : x < y
      · rw [if_pos c2, Bool.eq_iff_iff]
        simp only [Bool.or_eq_true, Bool.and_eq_true, decide_eq_true_eq, beq_iff_eq]
        omega
      · rw [if_neg c2, Bool.eq_iff_iff]
        simp only [Bool.or_eq_true, Bool.and_eq_true, decide_eq_true_eq, beq_iff_eq]
        omega
  rw [this]
  exact Ev.now _
end Go.Proofs.Ythnojbafclglpaa.P
