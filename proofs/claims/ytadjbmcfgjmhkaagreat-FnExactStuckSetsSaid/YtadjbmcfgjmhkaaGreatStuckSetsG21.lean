/- spec's l2Sorted: states in order, each once. -/
import Derived.Test.YtadjbmcfgjmhkaaGreatStuckSetsG16
import Derived.Test.YtadjbmcfgjmhkaaGreatStuckSetsG11
import Derived.Test.YtadjbmcfgjmhkaaGreatStuckSetsG8
import Derived.Test.YtadjbmcfgjmhkaaGreatStuckSetsG18
import Derived.Test.YtadjbmcfgjmhkaaGreatStuckSetsG9
import Derived.Test.YtadjbmcfgjmhkaaGreatStuckSetsG17
import Derived.Test.YtadjbmcfgjmhkaaGreatStuckSetsG5
import Derived.Test.YtadjbmcfgjmhkaaGreatStuckSetsG6
import Derived.Test.YtadjbmcfgjmhkaaGreatStuckSetsG12
import Derived.Test.YtadjbmcfgjmhkaaGreatStuckSetsG10
import Derived.Test.YtadjbmcfgjmhkaaGreatStuckSetsG13
import Derived.Laws.BitsLemmas
import Derived.Test.YtadjbmcfgjmhkaaGreatStuckSetsG20
import Derived.Test.YtadjbmcfgjmhkaaGreatStuckSetsG15
namespace Go.Proofs.YtadjbmcfgjmhkaaGreat.P
open Go.RowKit Go.Proofs.YtadjbmcfgjmhkaaGreatW.PrintWords Go.Proofs.YtadjbmcfgjmhkaaGreatW.PrintLast Go.Proofs.YtadjbmcfgjmhkaaGreatW.PrintMore
set_option linter.unusedVariables false
set_option linter.unusedSimpArgs false

theorem own_at (l : List Int) (h : l.length ≤ 1048576) : spec_l1Own.f l = some l := by
  unfold spec_l1Own.f
  rw [Option.bind_some, List.length_nil, if_pos (by omega), List.nil_append]
theorem same_loop (x y : List Int) (hx : x.length ≤ 1048576) (hxy : x.length = y.length) (d : Nat) : ∀ (m : Nat), x.length - m = d → m ≤ x.length → Ev (fun k => spec_l1Same.l0 k x y (m : Int)) (decide (x.drop m = y.drop m)) := by
  induction d with
  | zero =>
    intro m h0 h1
    refine Ev.step (fun k => by rw [spec_l1Same.l0]) (Ev.neg (by omega) ?_)
    rw [List.drop_eq_nil_of_le (by omega), List.drop_eq_nil_of_le (by omega), decide_eq_true rfl]
    exact Ev.now _
  | succ d ih =>
    intro m h0 h1
    have hm : m < x.length := by omega
    have hy : m < y.length := by omega
    refine Ev.step (fun k => by rw [spec_l1Same.l0]) (Ev.pos (by omega) (Ev.pos (by omega) (Ev.pos (by omega) ?_)))
    rw [rd_at x m hm, rd_at y m hy, List.drop_eq_getElem_cons hm, List.drop_eq_getElem_cons hy]
    by_cases c : x[m] = y[m]
    · have := ih (m + 1) (by omega) (by omega)
      rw [show decide (x[m] :: x.drop (m + 1) = y[m] :: y.drop (m + 1)) = decide (x.drop (m + 1) = y.drop (m + 1)) from by rw [decide_eq_decide, List.cons.injEq]; exact ⟨fun h => h.2, fun h => ⟨c, h⟩⟩, wrap_up hm (by omega)]
      exact Ev.pos c this
    · rw [decide_eq_false (fun h => c (by injection h))]
      exact Ev.neg c (Ev.now _)
theorem same_ev (x y : List Int) (hx : x.length ≤ 1048576) : Ev (fun k => spec_l1Same.f k x y) (decide (x = y)) := by
  unfold spec_l1Same.f
  by_cases c : x.length = y.length
  · have := same_loop x y hx c x.length 0 (by omega) (Nat.zero_le _)
    rw [List.drop_zero, List.drop_zero] at this
    exact Ev.pos (by omega) this
  · rw [decide_eq_false (fun h => c (by rw [h]))]
    exact Ev.neg (by omega) (Ev.now _)
theorem lex_ins {o : List (List Int)} (h : LexS o) (s : List Int) (p : Nat) (h1 : ∀ x ∈ o.drop p, befL s x = true) (h2 : ∀ x ∈ o.take p, befL x s = true) :
    LexS (o.take p ++ [s] ++ o.drop p) ∧ ∀ x, x ∈ o.take p ++ [s] ++ o.drop p ↔ x ∈ o ∨ x = s := by
  have hm : ∀ x, x ∈ o ↔ x ∈ o.take p ∨ x ∈ o.drop p := fun x => by rw [← List.mem_append, List.take_append_drop]
  constructor
  · unfold LexS
    rw [List.append_assoc, List.singleton_append, List.pairwise_append, List.pairwise_cons]
    refine ⟨h.sublist (List.take_sublist ..), ⟨h1, h.sublist (List.drop_sublist ..)⟩, fun a ha b hb => ?_⟩
    rcases List.mem_cons.1 hb with rfl | hb
    · exact h2 a ha
    · exact befL_trans _ _ _ (h2 a ha) (h1 b hb)
  · intro x
    rw [hm x]
    simp only [List.mem_append, List.mem_singleton]
    constructor
    · rintro ((h | h) | h)
      · exact .inl (.inl h)
      · exact .inr h
      · exact .inl (.inr h)
    · rintro ((h | h) | h)
      · exact .inl (.inl h)
      · exact .inr h
      · exact .inl (.inr h)
section
variable (ls : List (List Int)) (hls : ls.length ≤ 1048576) (hb : ∀ s ∈ ls, s.length ≤ 1048576)
include hls hb
theorem sorted_in (i : Nat) (hi : i < ls.length) (o : List (List Int)) (ho : LexS o) (hol : o.length ≤ i) (hob : ∀ x ∈ o, x.length ≤ 1048576) : ∀ p : Nat, p ≤ o.length → (∀ x ∈ o.drop p, befL ls[i] x = true) →
    ∃ R, LexS R ∧ R.length ≤ o.length + 1 ∧ (∀ x, x ∈ R ↔ x ∈ o ∨ x = ls[i]) ∧ ∀ F, Ev (fun k => spec_l2Sorted.l0 k ls R (wrap64 ((i : Int) + 1))) F → Ev (fun k => spec_l2Sorted.l1 k ls o (i : Int) (p : Int)) F := by
  have hs := hb ls[i] (List.getElem_mem hi)
  intro p
  induction p with
  | zero =>
    intro hp hd
    obtain ⟨g1, g2⟩ := lex_ins ho ls[i] 0 hd (fun x hx => by simp at hx)
    refine ⟨_, g1, by simp, g2, fun F hF => ?_⟩
    refine Ev.step (fun k => by rw [spec_l2Sorted.l1]) ?_
    refine Ev.neg (by omega) ?_
    refine Ev.step (fun k => by rw [spec_l2Sorted.j2]) ?_
    refine Ev.pos rfl ?_
    refine Ev.bindo rfl ?_
    refine Ev.pos (by omega) ?_
    refine Ev.pos (by omega) ?_
    refine Ev.bindo rfl ?_
    refine Ev.pos (by simp) ?_
    refine Ev.bindo rfl ?_
    refine Ev.pos (by omega) ?_
    refine Ev.pos (by omega) ?_
    rw [rdL_at ls i hi]
    refine Ev.bindo (own_at _ hs) ?_
    refine Ev.pos (by simp) ?_
    refine Ev.bindo rfl ?_
    refine Ev.bindo rfl ?_
    refine Ev.pos (by simp; omega) ?_
    exact hF
  | succ p ih =>
    intro hp hd
    have hpl : p < o.length := by omega
    have hw : wrap64 (((p + 1 : Nat) : Int) - 1) = (p : Int) := by unfold wrap64; omega
    cases c : befL ls[i] o[p] with
    | true =>
      obtain ⟨R, r1, r2, r3, r4⟩ := ih (by omega) (fun x hx => by
        rw [List.drop_eq_getElem_cons hpl] at hx
        rcases List.mem_cons.1 hx with rfl | hx
        · exact c
        · exact hd x hx)
      refine ⟨R, r1, r2, r3, fun F hF => ?_⟩
      refine Ev.step (fun k => by rw [spec_l2Sorted.l1]) ?_
      refine Ev.pos (by omega) ?_
      refine Ev.pos (by omega) ?_
      refine Ev.pos (by omega) ?_
      rw [hw]
      refine Ev.pos (by omega) ?_
      refine Ev.pos (by omega) ?_
      rw [rdL_at ls i hi, rdL_at o p hpl]
      refine Ev.bind (l2Before_ev _ _ hs (hob _ (List.getElem_mem hpl))) ?_
      refine Ev.pos c ?_
      exact r4 F hF
    | false =>
      by_cases e : o[p] = ls[i]
      · refine ⟨o, ho, by omega, fun x => ⟨.inl, fun h => h.elim id fun h => by rw [h, ← e]; exact List.getElem_mem hpl⟩, fun F hF => ?_⟩
        refine Ev.step (fun k => by rw [spec_l2Sorted.l1]) ?_
        refine Ev.pos (by omega) ?_
        refine Ev.pos (by omega) ?_
        refine Ev.pos (by omega) ?_
        rw [hw]
        refine Ev.pos (by omega) ?_
        refine Ev.pos (by omega) ?_
        rw [rdL_at ls i hi, rdL_at o p hpl]
        refine Ev.bind (l2Before_ev _ _ hs (hob _ (List.getElem_mem hpl))) ?_
        refine Ev.neg (by rw [c]; decide) ?_
        refine Ev.step (fun k => by rw [spec_l2Sorted.j2]) ?_
        refine Ev.neg (by omega) ?_
        rw [hw]
        refine Ev.pos (by omega) ?_
        refine Ev.pos (by omega) ?_
        refine Ev.pos (by omega) ?_
        refine Ev.pos (by omega) ?_
        rw [rdL_at ls i hi, rdL_at o p hpl]
        refine Ev.bind (same_ev _ _ (hob _ (List.getElem_mem hpl))) ?_
        refine Ev.pos (decide_eq_true e) ?_
        exact hF
      · have hlt : befL o[p] ls[i] = true := by
          cases c2 : befL o[p] ls[i] with
          | true => rfl
          | false => exact absurd (befL_tri _ _ c2 c) e
        obtain ⟨g1, g2⟩ := lex_ins ho ls[i] (p + 1) hd (fun x hx => by
          obtain ⟨q, hq, rfl⟩ := List.getElem_of_mem hx
          rw [List.length_take] at hq
          rw [List.getElem_take]
          by_cases hqp : q = p
          · subst hqp; exact hlt
          · exact befL_trans _ _ _ (List.pairwise_iff_getElem.1 ho q p (by omega) hpl (by omega)) hlt)
        refine ⟨_, g1, by simp [List.length_take, List.length_drop]; omega, g2, fun F hF => ?_⟩
        refine Ev.step (fun k => by rw [spec_l2Sorted.l1]) ?_
        refine Ev.pos (by omega) ?_
        refine Ev.pos (by omega) ?_
        refine Ev.pos (by omega) ?_
        rw [hw]
        refine Ev.pos (by omega) ?_
        refine Ev.pos (by omega) ?_
        rw [rdL_at ls i hi, rdL_at o p hpl]
        refine Ev.bind (l2Before_ev _ _ hs (hob _ (List.getElem_mem hpl))) ?_
        refine Ev.neg (by rw [c]; decide) ?_
        refine Ev.step (fun k => by rw [spec_l2Sorted.j2]) ?_
        refine Ev.neg (by omega) ?_
        rw [hw]
        refine Ev.pos (by omega) ?_
        refine Ev.pos (by omega) ?_
        refine Ev.pos (by omega) ?_
        refine Ev.pos (by omega) ?_
        rw [rdL_at ls i hi, rdL_at o p hpl]
        refine Ev.bind (same_ev _ _ (hob _ (List.getElem_mem hpl))) ?_
        refine Ev.neg (by rw [decide_eq_false e]; decide) ?_
        refine Ev.bindo rfl ?_
        refine Ev.pos (by omega) ?_
        refine Ev.pos (by omega) ?_
        refine Ev.bindo rfl ?_
        rw [Int.toNat_natCast]
        refine Ev.pos (by simp [List.length_take]; omega) ?_
        refine Ev.bindo rfl ?_
        refine Ev.bindo (own_at _ hs) ?_
        refine Ev.pos (by simp [List.length_take]; omega) ?_
        refine Ev.bindo rfl ?_
        refine Ev.bindo rfl ?_
        refine Ev.pos (by simp [List.length_take, List.length_drop]; omega) ?_
        exact hF
theorem sorted_loop (d : Nat) : ∀ (m : Nat) (o : List (List Int)), ls.length - m = d → m ≤ ls.length → LexS o → o.length ≤ m → (∀ x, x ∈ o ↔ x ∈ ls.take m) →
    ∃ R, LexS R ∧ R.length ≤ ls.length ∧ (∀ x, x ∈ R ↔ x ∈ ls) ∧ Ev (fun k => spec_l2Sorted.l0 k ls o (m : Int)) R := by
  induction d with
  | zero =>
    intro m o h0 h1 h2 h3 h4
    refine ⟨o, h2, by omega, fun x => by rw [h4 x, List.take_of_length_le (by omega)], ?_⟩
    refine Ev.step (fun k => by rw [spec_l2Sorted.l0]) ?_
    exact Ev.neg (by omega) (Ev.now _)
  | succ d ih =>
    intro m o h0 h1 h2 h3 h4
    have hm : m < ls.length := by omega
    obtain ⟨R, r1, r2, r3, r4⟩ := sorted_in ls hls hb m hm o h2 h3 (fun x hx => hb x (List.mem_of_mem_take ((h4 x).1 hx))) o.length (Nat.le_refl _) (fun x hx => by rw [List.drop_length] at hx; simp at hx)
    obtain ⟨R', q1, q2, q3, q4⟩ := ih (m + 1) R (by omega) (by omega) r1 (by omega) (fun x => by
      rw [r3 x, h4 x, List.take_succ_eq_append_getElem hm, List.mem_append, List.mem_singleton])
    rw [← wrap_up hm (by omega)] at q4
    refine ⟨R', q1, q2, q3, ?_⟩
    refine Ev.step (fun k => by rw [spec_l2Sorted.l0]) ?_
    refine Ev.pos (by omega) ?_
    exact r4 R' q4
end
theorem l2Sorted_ev (ls : List (List Int)) (hls : ls.length ≤ 1048576) (hb : ∀ s ∈ ls, s.length ≤ 1048576) : ∃ R, LexS R ∧ R.length ≤ ls.length ∧ (∀ x, x ∈ R ↔ x ∈ ls) ∧ Ev (fun k => spec_l2Sorted.f k ls) R := by
  obtain ⟨R, r1, r2, r3, r4⟩ := sorted_loop ls hls hb ls.length 0 [] (by omega) (Nat.zero_le _) List.Pairwise.nil (Nat.le_refl _) (fun x => by simp)
  refine ⟨R, r1, r2, r3, ?_⟩
  unfold spec_l2Sorted.f
  simpa only [Int.natCast_zero] using r4
theorem l2Sorted_nodup (ls : List (List Int)) (hls : ls.length ≤ 1048576) (hb : ∀ s ∈ ls, s.length ≤ 1048576) (hn : ls.Nodup) : Ev (fun k => spec_l2Sorted.f k ls) (sortLL ls) := by
  obtain ⟨R, r1, r2, r3, r4⟩ := l2Sorted_ev ls hls hb
  rw [← lex_unique R (sortLL ls) r1 (sortLL_lex ls hn) (fun s => by rw [r3, sortLL_mem])]
  exact r4
end Go.Proofs.YtadjbmcfgjmhkaaGreat.P
namespace Go.Proofs.YtadjbmcfgjmhkaaGreat.P
open Go.RowKit Go.Proofs.YtadjbmcfgjmhkaaGreatW.PrintWords Go.Proofs.YtadjbmcfgjmhkaaGreatW.PrintLast Go.Proofs.YtadjbmcfgjmhkaaGreatW.PrintMore
set_option linter.unusedVariables false
set_option linter.unusedSimpArgs false

abbrev bagL (b : Int) : List Int := selI (hasI b) 8 0
theorem hasB_fin : ∀ b : Fin 256, ∀ y : Fin 8, (Go.bits .and .i64 (shr .i64 b y) 1 == 1) = hasI b y := by decide +kernel
theorem hasB_at {b y : Int} (hb : 0 ≤ b ∧ b < 256) (hy : 0 ≤ y ∧ y < 8) : (Go.bits .and .i64 (shr .i64 b y) 1 = 1) ↔ hasI b y = true := by
  obtain ⟨i, rfl⟩ := fin_of (n := 256) hb.1 hb.2
  obtain ⟨j, rfl⟩ := fin_of (n := 8) hy.1 hy.2
  have := hasB_fin i j
  rw [← this, beq_iff_eq]
theorem high_fin : ∀ n : Fin 9, ∀ b : Fin 256, decide (b.val < 2 ^ n.val) = (List.range 8).all (fun y => decide (y < n.val) || !hasI b y) := by decide +kernel
theorem high_at {n : Nat} {b : Int} (hn : n ≤ 8) (hb : 0 ≤ b ∧ b < 256) : b < ((2 ^ n : Nat) : Int) ↔ ∀ y : Int, (n : Int) ≤ y → y < 8 → hasI b y = false := by
  obtain ⟨i, rfl⟩ := fin_of (n := 256) hb.1 hb.2
  have h := high_fin ⟨n, by omega⟩ i
  have e1 : ((i.val : Int) < ((2 ^ n : Nat) : Int)) ↔ decide (i.val < 2 ^ n) = true := by rw [decide_eq_true_eq]; omega
  rw [e1, h, List.all_eq_true]
  constructor
  · intro h y h0 h1
    have := h y.toNat (by rw [List.mem_range]; omega)
    simp only [Bool.or_eq_true, decide_eq_true_eq, Bool.not_eq_true'] at this
    rw [show ((y.toNat : Nat) : Int) = y by omega] at this
    exact this.resolve_left (by omega)
  · intro h y hy
    rw [List.mem_range] at hy
    by_cases c : y < n
    · simp [c]
    · have := h (y : Int) (by omega) (by omega)
      simp [this]
theorem bag_left : ∀ b : Fin 256, bagI 0 (selI (hasI b) 8 0) = b := by decide +kernel
theorem bag_left_at {b : Int} (hb : 0 ≤ b ∧ b < 256) : bagI 0 (bagL b) = b := by
  obtain ⟨i, rfl⟩ := fin_of (n := 256) hb.1 hb.2
  exact bag_left i
theorem bits_loop (n : Int) (b : Int) (hn : n ≤ 8) (hb : 0 ≤ b ∧ b < 256) (d : Nat) : ∀ (y : Int) (acc : List Int), (n - y).toNat = d → 0 ≤ y → acc.length + d ≤ 1000 → Ev (fun k => spec_l2Bits.l0 k n b acc y) (acc ++ selI (hasI b) d y) := by
  induction d with
  | zero =>
    intro y acc h0 h1 h2
    refine Ev.step (fun k => by rw [spec_l2Bits.l0]) (Ev.neg (by omega) ?_)
    simp only [selI, List.append_nil]
    exact Ev.now _
  | succ d ih =>
    intro y acc h0 h1 h2
    refine Ev.step (fun k => by rw [spec_l2Bits.l0]) (Ev.pos (by omega) (Ev.pos (by omega) ?_))
    have hw : wrap64 (y + 1) = y + 1 := wrap_nat (by omega) (by omega)
    rw [hw, selI]
    by_cases c : hasI b y = true
    · rw [if_pos c, ← List.append_assoc]
      refine Ev.pos ((hasB_at hb ⟨h1, by omega⟩).2 c) (Ev.pos (by omega) ?_)
      exact ih (y + 1) _ (by omega) (by omega) (by rw [List.length_append, List.length_singleton]; omega)
    · rw [if_neg c, List.nil_append]
      exact Ev.neg (fun h => c ((hasB_at hb ⟨h1, by omega⟩).1 h)) (ih (y + 1) acc (by omega) (by omega) (by omega))
theorem bits_ev (n : Nat) (b : Int) (hn : n ≤ 8) (hb : 0 ≤ b ∧ b < ((2 ^ n : Nat) : Int)) : Ev (fun k => spec_l2Bits.f k (n : Int) b) (bagL b) := by
  have hpow : 2 ^ n ≤ 256 := Nat.pow_le_pow_right (n := 2) (by decide) (show n ≤ 8 from hn)
  have h := bits_loop (n : Int) b (by omega) ⟨hb.1, by omega⟩ n 0 [] (by omega) (by omega) (by simp; omega)
  unfold spec_l2Bits.f
  have e : bagL b = selI (hasI b) n 0 := by
    unfold bagL
    rw [show 8 = n + (8 - n) by omega, selI_add, selI_none _ (8 - n), List.append_nil]
    intro z h0 h1
    exact (high_at hn ⟨hb.1, by omega⟩).1 hb.2 z (by omega) (by omega)
  rw [e]
  simpa only [List.nil_append] using h
/-- A set of nodes. -/
def SetN (n : Nat) (s : List Int) : Prop := s.Pairwise (· < ·) ∧ ∀ x ∈ s, 0 ≤ x ∧ x < (n : Int)
theorem SetN.ris {n : Nat} {s : List Int} (h : SetN n s) : risI 0 ((n : Int) - 1) none s = true := risI_of _ _ s none h.1 (fun x hx => by have := h.2 x hx; omega) (fun q e => by cases e)
theorem SetN.wide {n m : Nat} {s : List Int} (h : SetN n s) (hm : n ≤ m) : SetN m s := ⟨h.1, fun x hx => by have := h.2 x hx; omega⟩
theorem selI_pw (f : Int → Bool) (d : Nat) : ∀ y, (selI f d y).Pairwise (· < ·) := by
  induction d with
  | zero => intro y; exact List.Pairwise.nil
  | succ d ih =>
    intro y
    simp only [selI]
    by_cases c : f y = true
    · rw [if_pos c, List.singleton_append, List.pairwise_cons]
      exact ⟨fun z hz => by have := ((selI_mem f d (y + 1) z).1 hz).1; omega, ih (y + 1)⟩
    · rw [if_neg c, List.nil_append]
      exact ih (y + 1)
theorem bagL_set {n : Nat} {b : Int} (hn : n ≤ 8) (hb : 0 ≤ b ∧ b < ((2 ^ n : Nat) : Int)) : SetN n (bagL b) := by
  have hpow : 2 ^ n ≤ 256 := Nat.pow_le_pow_right (n := 2) (by decide) (show n ≤ 8 from hn)
  refine ⟨selI_pw _ _ _, fun x hx => ?_⟩
  obtain ⟨h1, h2⟩ := (selI_mem _ _ _ _).1 hx
  have h3 := (high_at hn ⟨hb.1, by omega⟩).1 hb.2
  refine ⟨by omega, ?_⟩
  by_cases c : x < (n : Int)
  · exact c
  · have := h3 x (by omega) (by omega)
    rw [h2] at this
    exact absurd this (by decide)
theorem pw_unique {l1 l2 : List Int} (h1 : l1.Pairwise (· < ·)) (h2 : l2.Pairwise (· < ·)) (h : ∀ x, x ∈ l1 ↔ x ∈ l2) : l1 = l2 := by
  induction l1 generalizing l2 with
  | nil =>
    cases l2 with
    | nil => rfl
    | cons b u => exact absurd ((h b).2 (List.mem_cons_self ..)) (by simp)
  | cons a t ih =>
    cases l2 with
    | nil => exact absurd ((h a).1 (List.mem_cons_self ..)) (by simp)
    | cons b u =>
      have p1 := List.pairwise_cons.1 h1
      have p2 := List.pairwise_cons.1 h2
      have hab : a = b := by
        rcases List.mem_cons.1 ((h a).1 (List.mem_cons_self ..)) with e | e
        · exact e
        · rcases List.mem_cons.1 ((h b).2 (List.mem_cons_self ..)) with e2 | e2
          · exact e2.symm
          · have := p1.1 b e2
            have := p2.1 a e
            omega
      subst hab
      rw [ih p1.2 p2.2 fun s => ?_]
      constructor
      · intro hs
        rcases List.mem_cons.1 ((h s).1 (List.mem_cons_of_mem _ hs)) with e | e
        · have := p1.1 s hs; omega
        · exact e
      · intro hs
        rcases List.mem_cons.1 ((h s).2 (List.mem_cons_of_mem _ hs)) with e | e
        · have := p2.1 s hs; omega
        · exact e
theorem bag_list_set {l : List Int} (h : risI 0 (((8 : Nat) : Int) - 1) none l = true) : bagL (bagI 0 l) = l := by
  have hp := risI_pw _ _ l none h
  have hx : ∀ x ∈ l, 0 ≤ x ∧ x < 8 := fun x hx => by have := risI_all _ _ l none h x hx; omega
  have hb := (bagI_at l 0 (by omega) hx).2
  refine pw_unique (selI_pw _ _ _) hp.1 fun x => ?_
  rw [selI_mem]
  constructor
  · rintro ⟨h1, h2⟩
    rw [hb x (by omega) (by omega), hasI_nil (by omega) (by omega), Bool.false_or, decide_eq_true_eq] at h2
    exact h2
  · intro hx'
    have := hx x hx'
    refine ⟨by omega, ?_⟩
    rw [hb x (by omega) (by omega), hasI_nil (by omega) (by omega), Bool.false_or, decide_eq_true_eq]
    exact hx'
theorem SetN.code {n : Nat} {s : List Int} (hn : n ≤ 8) (h : SetN n s) : (0 ≤ bagI 0 s ∧ bagI 0 s < ((2 ^ n : Nat) : Int)) ∧ bagL (bagI 0 s) = s := by
  have h8 := (h.wide hn).ris
  have hb := bagI_at s 0 (by omega) (fun x hx => by have := h.2 x hx; omega)
  refine ⟨⟨hb.1.1, (high_at hn hb.1).2 fun y h0 h1 => ?_⟩, bag_list_set h8⟩
  rw [hb.2 y (by omega) h1, hasI_nil (by omega) h1, Bool.false_or, decide_eq_false_iff_not]
  intro hy
  have := h.2 y hy
  omega
theorem codes_mem {n : Nat} (hn : n ≤ 8) (p : Int → Bool) (s : List Int) : s ∈ codesL p (2 ^ n) ↔ SetN n s ∧ p (bagI 0 s) = true := by
  have hpow : 2 ^ n ≤ 256 := Nat.pow_le_pow_right (n := 2) (by decide) (show n ≤ 8 from hn)
  unfold codesL
  rw [List.mem_map]
  constructor
  · rintro ⟨b, hb, rfl⟩
    obtain ⟨h1, h2⟩ := (selI_mem _ _ _ _).1 hb
    have h3 : 0 ≤ b ∧ b < ((2 ^ n : Nat) : Int) := ⟨h1.1, by omega⟩
    refine ⟨bagL_set hn h3, ?_⟩
    rw [bag_left_at ⟨h3.1, by omega⟩]
    exact h2
  · rintro ⟨h1, h2⟩
    have h3 := h1.code hn
    exact ⟨bagI 0 s, (selI_mem _ _ _ _).2 ⟨by have := h3.1; omega, h2⟩, h3.2⟩
theorem codes_nodup {n : Nat} (hn : n ≤ 256) (p : Int → Bool) : (codesL p n).Nodup := by
  unfold codesL
  refine List.Pairwise.map _ ?_ (List.Pairwise.and_mem.1 (selI_pw p n 0))
  rintro a b ⟨ha, hb, hab⟩ e
  have h1 := ((selI_mem _ _ _ _).1 ha).1
  have h2 := ((selI_mem _ _ _ _).1 hb).1
  have := congrArg (bagI 0) e
  rw [bag_left_at ⟨by omega, by omega⟩, bag_left_at ⟨by omega, by omega⟩] at this
  omega
theorem SetN.len {n : Nat} {s : List Int} (h : SetN n s) : s.length ≤ n := by
  have : ∀ (s : List Int) (a : Int), s.Pairwise (· < ·) → (∀ x ∈ s, a ≤ x ∧ x < (n : Int)) → (s.length : Int) ≤ (n : Int) - a ∨ s = [] := by
    intro s
    induction s with
    | nil => intro a _ _; exact .inr rfl
    | cons x t ih =>
      intro a h1 h2
      have p1 := List.pairwise_cons.1 h1
      have hx := h2 x (List.mem_cons_self ..)
      rcases ih (x + 1) p1.2 (fun y hy => ⟨by have := p1.1 y hy; omega, (h2 y (List.mem_cons_of_mem _ hy)).2⟩) with h3 | h3
      · exact .inl (by rw [List.length_cons]; omega)
      · subst h3
        exact .inl (by rw [List.length_singleton]; omega)
  rcases this s 0 h.1 h.2 with h3 | h3
  · omega
  · subst h3; exact Nat.zero_le _
end Go.Proofs.YtadjbmcfgjmhkaaGreat.P
namespace Go.Proofs.YtadjbmcfgjmhkaaGreat.P
open Go.RowKit Go.Proofs.YtadjbmcfgjmhkaaGreatW.PrintWords Go.Proofs.YtadjbmcfgjmhkaaGreatW.PrintLast Go.Proofs.YtadjbmcfgjmhkaaGreatW.PrintMore
set_option linter.unusedVariables false

def freeN (e : List S69) (l : List Int) (r : Bool) : Nat → Nat → Bool
  | 0, _ => r
  | d + 1, i => if (l.take i).any (fun y => hasP e y (l[i]?.getD 0)) = true then false else freeN e l r d (i + 1)
theorem freeN_iff (e : List S69) (l : List Int) (r : Bool) (d : Nat) : ∀ i, freeN e l r d i = true ↔ r = true ∧ ∀ q, i ≤ q → q < i + d → ∀ y ∈ l.take q, ¬ hasP e y (l[q]?.getD 0) = true := by
  induction d with
  | zero => intro i; simp only [freeN]; exact ⟨fun h => ⟨h, fun q h1 h2 => by omega⟩, fun h => h.1⟩
  | succ d ih =>
    intro i
    simp only [freeN]
    by_cases c : (l.take i).any (fun y => hasP e y (l[i]?.getD 0)) = true
    · rw [if_pos c]
      refine ⟨fun h => by simp at h, fun h => ?_⟩
      obtain ⟨y, hy, hc⟩ := List.any_eq_true.1 c
      exact absurd hc (h.2 i (Nat.le_refl _) (by omega) y hy)
    · rw [if_neg c, ih]
      refine and_congr_right fun _ => ⟨fun h q h1 h2 y hy hc => ?_, fun h q h1 h2 => h q (by omega) (by omega)⟩
      by_cases hq : q = i
      · subst hq
        exact c (List.any_eq_true.2 ⟨y, hy, hc⟩)
      · exact h q (by omega) (by omega) y hy hc
section
variable (a : Int) (e : List S69) (l : List Int) (he : e.length ≤ 1048576) (hl : l.length ≤ 1048576)
include he hl
theorem free_row {R : Bool} (i : Nat) (hi : i < l.length) (d : Nat) : ∀ (j : Nat), i - j = d → j ≤ i → Ev (fun k => spec_l3Free.l0 k l (wrap64 ((i : Int) + 1)) a e) R →
    Ev (fun k => spec_l3Free.l1 k l (i : Int) (j : Int) a e) (if ((l.take i).drop j).any (fun y => hasP e y (l[i]?.getD 0)) = true then false else R) := by
  induction d with
  | zero =>
    intro j h0 h1 h
    refine Ev.step (fun k => by rw [spec_l3Free.l1]) (Ev.neg (by omega) ?_)
    rw [List.drop_eq_nil_of_le (by rw [List.length_take]; omega), List.any_nil, if_neg (by decide)]
    exact h
  | succ d ih =>
    intro j h0 h1 h
    have hj : j < l.length := by omega
    refine Ev.step (fun k => by rw [spec_l3Free.l1]) (Ev.pos (by omega) (Ev.pos (by omega) (Ev.pos (by omega) (Ev.pos (by omega) (Ev.pos (by omega) ?_)))))
    rw [rd_at l j hj, rd_at l i hi]
    refine Ev.bind (near_ev a e l[j] l[i] he) ?_
    have hd : (l.take i).drop j = l[j] :: (l.take i).drop (j + 1) := by
      rw [List.drop_eq_getElem_cons (by rw [List.length_take]; omega), List.getElem_take]
    rw [hd, List.any_cons, List.getElem?_eq_getElem hi, Option.getD_some]
    by_cases c : hasP e l[j] l[i] = true
    · rw [c, Bool.true_or, if_pos rfl]
      exact Ev.pos rfl (Ev.now _)
    · have c' : hasP e l[j] l[i] = false := by simpa using c
      rw [c', Bool.false_or, wrap_up hj (by omega)]
      have := ih (j + 1) (by omega) (by omega) h
      rw [List.getElem?_eq_getElem hi, Option.getD_some] at this
      exact Ev.neg (by decide) this
theorem free_loop (d : Nat) : ∀ (i : Nat), l.length - i = d → i ≤ l.length → Ev (fun k => spec_l3Free.l0 k l (i : Int) a e) (freeN e l (risI 0 (wrap64 (a - 1)) none l) d i) := by
  induction d with
  | zero =>
    intro i h0 h1
    refine Ev.step (fun k => by rw [spec_l3Free.l0]) (Ev.neg (by omega) ?_)
    exact Ev.bind (l2Set_ev a e l hl) (Ev.now _)
  | succ d ih =>
    intro i h0 h1
    have hi : i < l.length := by omega
    refine Ev.step (fun k => by rw [spec_l3Free.l0]) (Ev.pos (by omega) ?_)
    have h := ih (i + 1) (by omega) (by omega)
    rw [← wrap_up hi (by omega)] at h
    have := free_row a e l he hl i hi i 0 (by omega) (by omega) h
    simpa only [List.drop_zero, freeN, Int.natCast_zero] using this
end
theorem l3Free_ev (a : Int) (e : List S69) (l : List Int) (he : e.length ≤ 1048576) (hl : l.length ≤ 1048576) : Ev (fun k => spec_l3Free.f k a e l) (freeN e l (risI 0 (wrap64 (a - 1)) none l) l.length 0) :=
  free_loop a e l he hl l.length 0 (by omega) (Nat.zero_le _)
/-- No edge has both nodes in the set. -/
def freeI (e : List S69) (l : List Int) : Bool := !(e.any fun s => decide (s.f0 ∈ l) && decide (s.f1 ∈ l))
theorem hasP_iff (e : List S69) (x y : Int) : hasP e x y = true ↔ ∃ s ∈ e, (s.f0 = x ∧ s.f1 = y) ∨ (s.f0 = y ∧ s.f1 = x) := by
  unfold hasP
  rw [List.any_eq_true]
  simp only [Bool.or_eq_true, Bool.and_eq_true, decide_eq_true_eq]
theorem freeN_freeI (e : List S69) (l : List Int) (r : Bool) (hu : ∀ s ∈ e, s.f0 < s.f1) : freeN e l r l.length 0 = (r && freeI e l) := by
  rw [Bool.eq_iff_iff, freeN_iff, Bool.and_eq_true]
  refine and_congr_right fun _ => ?_
  unfold freeI
  rw [Bool.not_eq_true', List.any_eq_false]
  simp only [Bool.and_eq_true, decide_eq_true_eq]
  constructor
  · intro h s hs hc
    obtain ⟨p, hp, h0⟩ := List.getElem_of_mem hc.1
    obtain ⟨q, hq, h1⟩ := List.getElem_of_mem hc.2
    have hne := hu s hs
    have hmem : ∀ p q (hp : p < l.length) (hq : q < l.length), p < q → l[p] ∈ l.take q := by
      intro p q hp hq hpq
      rw [List.mem_take_iff_getElem]
      exact ⟨p, by omega, rfl⟩
    rcases Nat.lt_trichotomy p q with hpq | hpq | hpq
    · refine h q (by omega) (by omega) l[p] (hmem p q hp hq hpq) ?_
      rw [List.getElem?_eq_getElem hq, Option.getD_some, hasP_iff]
      exact ⟨s, hs, .inl ⟨h0.symm, h1.symm⟩⟩
    · subst hpq
      rw [h0] at h1
      omega
    · refine h p (by omega) (by omega) l[q] (hmem q p hq hp hpq) ?_
      rw [List.getElem?_eq_getElem hp, Option.getD_some, hasP_iff]
      exact ⟨s, hs, .inr ⟨h0.symm, h1.symm⟩⟩
  · intro h q _ h2 y hy hc
    have hq : q < l.length := by omega
    rw [List.getElem?_eq_getElem hq, Option.getD_some, hasP_iff] at hc
    obtain ⟨s, hs, hc⟩ := hc
    have hy' : y ∈ l := List.mem_of_mem_take hy
    have hq' : l[q] ∈ l := List.getElem_mem hq
    refine h s hs ?_
    rcases hc with ⟨h0, h1⟩ | ⟨h0, h1⟩
    · exact ⟨h0 ▸ hy', h1 ▸ hq'⟩
    · exact ⟨h0 ▸ hq', h1 ▸ hy'⟩
end Go.Proofs.YtadjbmcfgjmhkaaGreat.P
namespace Go.Proofs.YtadjbmcfgjmhkaaGreat.P
open Go.RowKit Go.Proofs.YtadjbmcfgjmhkaaGreatW.PrintWords Go.Proofs.YtadjbmcfgjmhkaaGreatW.PrintLast Go.Proofs.YtadjbmcfgjmhkaaGreatW.PrintMore
set_option linter.unusedVariables false
set_option linter.unusedSimpArgs false

def freeQ (e : List S69) (lo hi b : Int) : Bool := (decide (lo ≤ ((bagL b).length : Int)) && decide (((bagL b).length : Int) ≤ hi)) && freeI e (bagL b)
/-- The independent sets with lo to hi nodes, in order. -/
def freeS (n : Nat) (e : List S69) (lo hi : Int) : List (List Int) := sortLL (codesL (freeQ e lo hi) (2 ^ n))
theorem freeS_mem {n : Nat} (hn : n ≤ 8) (e : List S69) (lo hi : Int) (s : List Int) : s ∈ freeS n e lo hi ↔ SetN n s ∧ (lo ≤ (s.length : Int) ∧ (s.length : Int) ≤ hi) ∧ freeI e s = true := by
  unfold freeS
  rw [sortLL_mem, codes_mem hn]
  refine and_congr_right fun h => ?_
  unfold freeQ
  rw [(h.code hn).2, Bool.and_eq_true, Bool.and_eq_true, decide_eq_true_eq, decide_eq_true_eq]
theorem freeS_lex {n : Nat} (hn : n ≤ 8) (e : List S69) (lo hi : Int) : LexS (freeS n e lo hi) := sortLL_lex _ (codes_nodup (Nat.pow_le_pow_right (n := 2) (by decide) (show n ≤ 8 from hn)) _)
theorem freeS_len {n : Nat} (hn : n ≤ 8) (e : List S69) (lo hi : Int) : (freeS n e lo hi).length ≤ 256 := by
  unfold freeS
  rw [sortLL_len]
  exact Nat.le_trans (codesL_len _ _) (Nat.pow_le_pow_right (n := 2) (by decide) (show n ≤ 8 from hn))
section
variable (n : Nat) (hn : n ≤ 8) (e : List S69) (he : e.length ≤ 1048576) (hg : okG (n : Int) e = true) (lo hi : Int)
include hn he hg
theorem freeP_eq (b : Int) (hb : 0 ≤ b ∧ b < 256) : freeP e lo hi b = freeQ e lo hi b := by
  have _hu := he
  have h1 := okG_all hg
  unfold freeP freeQ freeI
  congr 2
  refine any_congr e _ _ fun s hs => ?_
  have h2 := h1.2.2 s hs
  unfold bothB
  rw [bag_has_at (by omega), bag_has_at (by omega), Option.getD_some, Option.getD_some]
  have hm : ∀ x : Int, 0 ≤ x → x < 8 → hasI b x = decide (x ∈ bagL b) := fun x h0 h8 => by
    rw [Bool.eq_iff_iff, decide_eq_true_eq, selI_mem]
    exact ⟨fun h => ⟨by omega, h⟩, fun h => h.2⟩
  rw [hm _ (by omega) (by omega), hm _ (by omega) (by omega)]
theorem free_ev : impl_Graph_free.f (n : Int) e lo hi = some (freeS n e lo hi) := by
  have h1 := okG_all hg
  have hpow : 2 ^ n ≤ 256 := Nat.pow_le_pow_right (n := 2) (by decide) (show n ≤ 8 from hn)
  unfold impl_Graph_free.f freeS
  rw [if_pos ⟨by omega, by
    unfold edgesOk
    rw [List.all_eq_true]
    intro s hs
    have := h1.2.2 s hs
    rw [decide_eq_true (show 0 ≤ s.f0 by omega), decide_eq_true (show 0 ≤ s.f1 by omega)]
    rfl⟩, Int.toNat_natCast]
  unfold codesL
  rw [selI_congr (freeP e lo hi) (freeQ e lo hi) (2 ^ n) 0 fun z h0 h2 => freeP_eq n hn e he hg lo hi z ⟨h0, by omega⟩]
theorem l3_codes (d : Nat) : ∀ m : Nat, 2 ^ n - m = d → m ≤ 2 ^ n → Ev (fun k => spec_l3Sets.l0 k lo hi (codesL (freeQ e lo hi) m) (m : Int) (n : Int) e) (freeS n e lo hi) := by
  have hpow : 2 ^ n ≤ 256 := Nat.pow_le_pow_right (n := 2) (by decide) (show n ≤ 8 from hn)
  have h1 := okG_all hg
  have hu : ∀ s ∈ e, s.f0 < s.f1 := fun s hs => (h1.2.2 s hs).2.1
  have hw : wrap64 ((n : Int) - 1) = (n : Int) - 1 := wrap_nat (by omega) (by omega)
  have hsh : shl .i64 1 (n : Int) = ((2 ^ n : Nat) : Int) := by
    have : ∀ i : Fin 9, shl .i64 1 i = ((2 ^ i.val : Nat) : Int) := by decide +kernel
    exact this ⟨n, by omega⟩
  induction d with
  | zero =>
    intro m h0 h1
    have hm : m = 2 ^ n := by omega
    subst hm
    refine Ev.step (fun k => by rw [spec_l3Sets.l0]) ?_
    refine Ev.pos (by omega) ?_
    rw [hsh]
    refine Ev.neg (by omega) ?_
    refine Ev.bind (l2Sorted_nodup _ (by have := codesL_len (freeQ e lo hi) (2 ^ n); omega) (fun s hs => by
      have := (((codes_mem hn _ s).1 hs).1).len
      omega) (codes_nodup hpow _)) (Ev.now _)
  | succ d ih =>
    intro m h0 h1
    have hb : 0 ≤ (m : Int) ∧ (m : Int) < ((2 ^ n : Nat) : Int) := by omega
    have hset := bagL_set hn hb
    have hlen := hset.len
    have h5 := ih (m + 1) (by omega) (by omega)
    rw [codesL_succ, ← wrap_up (show m < 2 ^ n by omega) (by omega)] at h5
    have hcl := codesL_len (freeQ e lo hi) m
    have hf := l3Free_ev (n : Int) e (bagL (m : Int)) he (by omega)
    rw [freeN_freeI e _ _ hu, hw, hset.ris, Bool.true_and] at hf
    refine Ev.step (fun k => by rw [spec_l3Sets.l0]) ?_
    refine Ev.pos (by omega) ?_
    rw [hsh]
    refine Ev.pos hb.2 ?_
    refine Ev.bind (bits_ev n (m : Int) hn hb) ?_
    refine Ev.bindo (in_at _ _ _) ?_
    cases c1 : (decide (lo ≤ ((bagL (m : Int)).length : Int)) && decide (((bagL (m : Int)).length : Int) ≤ hi)) with
    | true =>
      refine Ev.pos rfl ?_
      refine Ev.bind hf ?_
      cases c2 : freeI e (bagL (m : Int)) with
      | true =>
        rw [if_pos (by unfold freeQ; rw [c1, c2]; rfl)] at h5
        refine Ev.pos rfl ?_
        refine Ev.pos (by omega) ?_
        exact h5
      | false =>
        rw [if_neg (by unfold freeQ; rw [c2, Bool.and_false]; decide), List.append_nil] at h5
        refine Ev.neg (by decide) ?_
        exact h5
    | false =>
      rw [if_neg (by unfold freeQ; rw [c1, Bool.false_and]; decide), List.append_nil] at h5
      refine Ev.neg (by decide) ?_
      exact h5
theorem l3Sets_ev : Ev (fun k => spec_l3Sets.f k (n : Int) e lo hi) (freeS n e lo hi) := by
  have h := l3_codes n hn e he hg lo hi (2 ^ n) 0 (Nat.sub_zero _) (Nat.zero_le _)
  unfold spec_l3Sets.f
  rw [show codesL (freeQ e lo hi) 0 = [] from rfl] at h
  simpa only [Int.natCast_zero] using h
end
end Go.Proofs.YtadjbmcfgjmhkaaGreat.P
namespace Go.Proofs.YtadjbmcfgjmhkaaGreat.P
open Go.RowKit Go.Proofs.YtadjbmcfgjmhkaaGreatW.PrintWords Go.Proofs.YtadjbmcfgjmhkaaGreatW.PrintLast Go.Proofs.YtadjbmcfgjmhkaaGreatW.PrintMore
set_option linter.unusedVariables false
set_option linter.unusedSimpArgs false

theorem l3Ask_ev (a : Int) (e : List S69) (k0 : Int) (he : e.length ≤ 1048576) : Ev (fun k => spec_l3Ask.f k a e k0) (okG a e && (decide (0 ≤ k0) && decide (k0 ≤ 8))) := by
  unfold spec_l3Ask.f
  refine Ev.bind (l2Good_ev a e he) ?_
  cases h : okG a e with
  | true => exact Ev.pos rfl (Ev.bindo (in_at _ _ _) (by rw [Bool.true_and]; exact Ev.now _))
  | false => exact Ev.neg (by decide) (Ev.now _)
/-- What IndependentSets answers. -/
def indR (a : Int) (e : List S69) (k0 : Int) : List (List Int) × Bool := if (okG a e && (decide (0 ≤ k0) && decide (k0 ≤ 8))) = true then (freeS a.toNat e k0 k0, true) else ([], false)
theorem indR_pos {a : Int} {e : List S69} {k0 : Int} (hg : okG a e = true) (c : (decide (0 ≤ k0) && decide (k0 ≤ 8)) = true) : indR a e k0 = (freeS a.toNat e k0 k0, true) := if_pos (by rw [hg, c]; rfl)
theorem indR_neg {a : Int} {e : List S69} {k0 : Int} (c : ¬ (okG a e && (decide (0 ≤ k0) && decide (k0 ≤ 8))) = true) : indR a e k0 = ([], false) := if_neg c
theorem impl_ind_ev (a : Int) (e : List S69) (k0 : Int) (he : e.length ≤ 1048576) : Ev (fun k => impl_IndependentSets.f k a e k0) (indR a e k0) := by
  by_cases hg : okG a e = true
  · have h1 := okG_all hg
    by_cases c : (decide (0 ≤ k0) && decide (k0 ≤ 8)) = true
    · rw [indR_pos hg c]
      obtain ⟨n, rfl⟩ := Int.eq_ofNat_of_zero_le h1.1
      unfold impl_IndependentSets.f
      refine Ev.bind (impl_IsGraph_ev _ e he) ?_
      refine Ev.pos hg ?_
      refine Ev.bindo (between_at _ _ _) ?_
      refine Ev.pos c ?_
      rw [Int.toNat_natCast]
      exact Ev.bindo (free_ev n (by omega) e he hg k0 k0) (Ev.now _)
    · rw [indR_neg (by rw [hg, Bool.true_and]; exact c)]
      unfold impl_IndependentSets.f
      refine Ev.bind (impl_IsGraph_ev _ e he) ?_
      refine Ev.pos hg ?_
      refine Ev.bindo (between_at _ _ _) ?_
      exact Ev.neg c (Ev.now _)
  · rw [indR_neg (by rw [Bool.and_eq_true]; exact fun h => hg h.1)]
    unfold impl_IndependentSets.f
    refine Ev.bind (impl_IsGraph_ev _ e he) ?_
    exact Ev.neg hg (Ev.now _)
end Go.Proofs.YtadjbmcfgjmhkaaGreat.P
namespace Go.Proofs.YtadjbmcfgjmhkaaGreat.P
open Go.RowKit Go.Proofs.YtadjbmcfgjmhkaaGreatW.PrintWords Go.Proofs.YtadjbmcfgjmhkaaGreatW.PrintLast Go.Proofs.YtadjbmcfgjmhkaaGreatW.PrintMore
set_option linter.unusedVariables false
set_option linter.unusedSimpArgs false

theorem wrap8_ (n : Int) (h0 : 0 ≤ n) (h1 : n < 2 ^ 8) : IntKind.u64.wrap n = n := by
  simp [IntKind.wrap, IntKind.bits, IntKind.signed]
  omega
theorem hasI_bit_ (n y : Nat) (hn : n < 256) (hy : y < 8) : hasI (n : Int) (y : Int) = n.testBit y := by
  unfold hasI shr
  have e : (n : Int) / 2 ^ min (y : Int).toNat IntKind.u64.bits = ((n / 2 ^ y : Nat) : Int) := by
    rw [Int.toNat_natCast, Nat.min_eq_left (by show y ≤ 64; omega)]
    simp
  rw [e, show (1 : Int) = ((1 : Nat) : Int) from rfl, (bits_nat .u64 8 (by decide) wrap8_ (n / 2 ^ y) 1 (Nat.lt_of_le_of_lt (Nat.div_le_self _ _) hn) (by decide)).1, Nat.and_one_is_mod, Nat.testBit_eq_decide_div_mod_eq, Bool.eq_iff_iff, beq_iff_eq, decide_eq_true_eq]
  omega
theorem less_nat (n m : Nat) (hn : n < 256) (hm : m < 256) : ∃ q : Nat, lessI (n : Int) (m : Int) = (q : Int) ∧ q < 256 ∧ ∀ y : Nat, q.testBit y = (n.testBit y && !m.testBit y) ∨ 8 ≤ y := by
  have h1 : (BitVec.ofNat 64 n &&& ~~~ BitVec.ofNat 64 m).toNat ≤ n := by
    rw [BitVec.toNat_and, BitVec.toNat_ofNat, Nat.mod_eq_of_lt (by omega)]
    exact Nat.and_le_left
  refine ⟨(BitVec.ofNat 64 n &&& ~~~ BitVec.ofNat 64 m).toNat, ?_, by omega, fun y => ?_⟩
  · unfold lessI
    simp only [bits, BitVec.ofInt_natCast]
    exact wrap8_ _ (Int.natCast_nonneg _) (by
      have h2 : (BitVec.ofNat IntKind.u64.bits n &&& ~~~ BitVec.ofNat IntKind.u64.bits m).toNat ≤ n := h1
      have h3 : (2 : Int) ^ 8 = 256 := by decide
      rw [h3]
      omega)
  · by_cases hy : 8 ≤ y
    · exact .inr hy
    · left
      rw [BitVec.testBit_toNat, BitVec.getLsbD_and, BitVec.getLsbD_not, BitVec.getLsbD_ofNat, BitVec.getLsbD_ofNat]
      have : y < 64 := by omega
      simp [this]
theorem less_at {b c : Int} (hb : 0 ≤ b ∧ b < 256) (hc : 0 ≤ c ∧ c < 256) : (0 ≤ lessI b c ∧ lessI b c < 256) ∧ ∀ y, 0 ≤ y → y < 8 → hasI (lessI b c) y = (hasI b y && !hasI c y) := by
  obtain ⟨n, rfl⟩ := Int.eq_ofNat_of_zero_le hb.1
  obtain ⟨m, rfl⟩ := Int.eq_ofNat_of_zero_le hc.1
  obtain ⟨q, h1, h2, h3⟩ := less_nat n m (by omega) (by omega)
  rw [h1]
  refine ⟨by omega, fun y h0 h8 => ?_⟩
  obtain ⟨z, rfl⟩ := Int.eq_ofNat_of_zero_le h0
  rw [hasI_bit_ q z h2 (by omega), hasI_bit_ n z (by omega) (by omega), hasI_bit_ m z (by omega) (by omega)]
  rcases h3 z with h | h
  · exact h
  · omega
theorem bag_mem8 {x : List Int} (hx : SetN 8 x) (z : Int) (h0 : 0 ≤ z) (h8 : z < 8) : hasI (bagI 0 x) z = decide (z ∈ x) := by
  have h1 := (hx.code (by decide)).2
  rw [Bool.eq_iff_iff, decide_eq_true_eq]
  constructor
  · intro h
    rw [← h1]
    exact (selI_mem _ _ _ _).2 ⟨by omega, h⟩
  · intro h
    rw [← h1] at h
    exact ((selI_mem _ _ _ _).1 h).2
theorem onlyL_set {x : List Int} (hx : SetN 8 x) (y : List Int) : SetN 8 (onlyL x y) := ⟨hx.1.filter _, fun z hz => hx.2 z (List.mem_filter.1 hz).1⟩
theorem less_only {x y : List Int} (hx : SetN 8 x) (hy : SetN 8 y) : bagL (lessI (bagI 0 x) (bagI 0 y)) = onlyL x y ∧ (0 ≤ lessI (bagI 0 x) (bagI 0 y) ∧ lessI (bagI 0 x) (bagI 0 y) < 256) := by
  have h1 := (hx.code (by decide)).1
  have h2 := (hy.code (by decide)).1
  have h3 := less_at (b := bagI 0 x) (c := bagI 0 y) (by omega) (by omega)
  refine ⟨?_, h3.1⟩
  refine pw_unique (selI_pw _ _ _) (onlyL_set hx y).1 fun z => ?_
  unfold onlyL bagL
  rw [selI_mem, List.mem_filter]
  constructor
  · rintro ⟨h4, h5⟩
    rw [h3.2 z (by omega) (by omega), bag_mem8 hx z (by omega) (by omega), bag_mem8 hy z (by omega) (by omega), Bool.and_eq_true, decide_eq_true_eq] at h5
    exact h5
  · rintro ⟨h4, h5⟩
    have h6 := hx.2 z h4
    refine ⟨by omega, ?_⟩
    rw [h3.2 z (by omega) (by omega), bag_mem8 hx z (by omega) (by omega), bag_mem8 hy z (by omega) (by omega), decide_eq_true h4, Bool.true_and]
    exact h5
theorem len8 {x : List Int} (hx : SetN 8 x) : x.length ≤ 8 := hx.len
theorem moves_ev {x y : List Int} (hx : SetN 8 x) (hy : SetN 8 y) : Ev (fun k => impl_moves.f k x y) (lessI (bagI 0 x) (bagI 0 y), lessI (bagI 0 y) (bagI 0 x)) := by
  have h1 := len8 hx
  have h2 := len8 hy
  unfold impl_moves.f
  refine Ev.bind (bagOf_ev x (by omega) fun z hz => hx.2 z hz) ?_
  refine Ev.bind (bagOf_ev y (by omega) fun z hz => hy.2 z hz) ?_
  exact Ev.now _
theorem size_only {x y : List Int} (hx : SetN 8 x) (hy : SetN 8 y) : impl_bag_size.f (lessI (bagI 0 x) (bagI 0 y)) = some ((onlyL x y).length : Int) := by
  have h1 := less_only hx hy
  rw [size_at h1.2.1 h1.2.2, ← h1.1]
theorem beq_one (n : Nat) : ((n : Int) == 1) = (n == 1) := by rw [Bool.eq_iff_iff, beq_iff_eq, beq_iff_eq]; omega
theorem nearE_eq (es : List S69) (a b : Int) : nearE es a b = hasP es a b := by
  unfold nearE hasP
  rfl
theorem rd_zero (l : List Int) : rd l 0 = l.headD 0 := by cases l <;> rfl
theorem slide_ev (a : Int) (es : List S69) (hl : es.length ≤ 1048576) (hu : ∀ e ∈ es, e.f0 < e.f1) {x y : List Int} (hx : SetN 8 x) (hy : SetN 8 y) : Ev (fun k => impl_Graph_isSlide.f k a es x y) (slideS es x y) := by
  unfold impl_Graph_isSlide.f slideS jumpS
  refine Ev.bind (moves_ev hx hy) ?_
  refine Ev.bindo (size_only hx hy) ?_
  by_cases c : (onlyL x y).length = 1
  · rw [beq_iff_eq.mpr c, Bool.true_and]
    refine Ev.pos (by omega) ?_
    refine Ev.bindo (size_only hy hx) ?_
    by_cases c2 : (onlyL y x).length = 1
    · rw [beq_iff_eq.mpr c2, Bool.true_and]
      refine Ev.pos (by omega) ?_
      refine Ev.bind (bag_list_ev _) ?_
      rw [show selI (hasI (lessI (bagI 0 x) (bagI 0 y))) 8 0 = onlyL x y from (less_only hx hy).1]
      refine Ev.pos (by omega) ?_
      refine Ev.bind (bag_list_ev _) ?_
      rw [show selI (hasI (lessI (bagI 0 y) (bagI 0 x))) 8 0 = onlyL y x from (less_only hy hx).1]
      refine Ev.pos (by omega) ?_
      rw [rd_zero, rd_zero, nearE_eq]
      exact Ev.bind (has_ev a es _ _ hl hu) (Ev.now _)
    · rw [beq_eq_false_iff_ne.mpr c2, Bool.false_and]
      exact Ev.neg (by omega) (Ev.now _)
  · rw [beq_eq_false_iff_ne.mpr c, Bool.false_and, Bool.false_and]
    exact Ev.neg (by omega) (Ev.now _)
theorem only_loop (x y : List Int) (hx : x.length ≤ 1048576) (hy : y.length ≤ 1048576) (d : Nat) : ∀ (m : Nat) (acc : List Int), x.length - m = d → m ≤ x.length → acc.length ≤ m → Ev (fun k => spec_l3Only.l0 k x y acc (m : Int)) (acc ++ onlyL (x.drop m) y) := by
  induction d with
  | zero =>
    intro m acc h0 h1 h2
    rw [List.drop_eq_nil_of_le (by omega), show onlyL [] y = [] from rfl, List.append_nil]
    refine Ev.step (fun k => by rw [spec_l3Only.l0]) (Ev.neg (by omega) (Ev.now _))
  | succ d ih =>
    intro m acc h0 h1 h2
    have hm : m < x.length := by omega
    refine Ev.step (fun k => by rw [spec_l3Only.l0]) (Ev.pos (by omega) (Ev.pos (by omega) ?_))
    rw [rd_at x m hm, wrap_up hm (by omega)]
    refine Ev.bind (l1Has_ev y _ hy) ?_
    rw [List.drop_eq_getElem_cons hm]
    by_cases c : x[m] ∈ y
    · refine Ev.pos (decide_eq_true c) ?_
      have := ih (m + 1) acc (by omega) (by omega) (by omega)
      have e : onlyL (x[m] :: x.drop (m + 1)) y = onlyL (x.drop (m + 1)) y := by unfold onlyL; rw [List.filter_cons_of_neg (by simp [c])]
      rw [e]
      exact this
    · refine Ev.neg (by simp [c]) (Ev.pos (by omega) ?_)
      have := ih (m + 1) (acc ++ [x[m]]) (by omega) (by omega) (by rw [List.length_append, List.length_singleton]; omega)
      have e : onlyL (x[m] :: x.drop (m + 1)) y = x[m] :: onlyL (x.drop (m + 1)) y := by unfold onlyL; rw [List.filter_cons_of_pos (by simp [c])]
      rw [e]
      rw [List.append_assoc] at this
      exact this
theorem only_ev (x y : List Int) (hx : x.length ≤ 1048576) (hy : y.length ≤ 1048576) : Ev (fun k => spec_l3Only.f k x y) (onlyL x y) := by
  have := only_loop x y hx hy x.length 0 [] (by omega) (by omega) (by simp)
  unfold spec_l3Only.f
  simpa only [List.nil_append, List.drop_zero, Int.natCast_zero] using this
/-- When two sets differ by a step of a kind. -/
def stepS (es : List S69) (kind : Int) (x y : List Int) : Bool := if kind = 2 then addS x y else if kind = 1 then jumpS x y else slideS es x y
theorem onlyL_len (x y : List Int) : (onlyL x y).length ≤ x.length := List.length_filter_le _ _
theorem step_ev (a : Int) (es : List S69) (hl : es.length ≤ 1048576) (kind : Int) (x y : List Int) (hx : x.length ≤ 1048576) (hy : y.length ≤ 1048576) : Ev (fun k => spec_l3Step.f k a es kind x y) (stepS es kind x y) := by
  have h1 := onlyL_len x y
  have h2 := onlyL_len y x
  unfold spec_l3Step.f stepS
  refine Ev.bind (only_ev x y hx hy) ?_
  refine Ev.bind (only_ev y x hy hx) ?_
  by_cases c : kind = 2
  · rw [if_pos c]
    refine Ev.pos c ?_
    unfold addS
    rw [wrap_nat (by omega) (by omega), show ((onlyL x y).length : Int) + ((onlyL y x).length : Int) = (((onlyL x y).length + (onlyL y x).length : Nat) : Int) by omega, beq_one]
    exact Ev.now _
  · rw [if_neg c]
    refine Ev.neg c ?_
    unfold slideS jumpS
    by_cases c1 : (onlyL x y).length = 1
    · rw [beq_iff_eq.mpr c1, Bool.true_and]
      refine Ev.pos (by omega) ?_
      by_cases c2 : (onlyL y x).length = 1
      · rw [beq_iff_eq.mpr c2, Bool.true_and]
        refine Ev.pos (by omega) ?_
        by_cases c3 : kind = 1
        · rw [if_pos c3]
          exact Ev.pos c3 (Ev.now _)
        · rw [if_neg c3]
          refine Ev.neg c3 (Ev.pos (by omega) (Ev.pos (by omega) ?_))
          rw [rd_zero, rd_zero, nearE_eq]
          exact Ev.bind (near_ev a es _ _ hl) (Ev.now _)
      · rw [beq_eq_false_iff_ne.mpr c2, Bool.false_and, ite_self]
        exact Ev.neg (by omega) (Ev.now _)
    · rw [beq_eq_false_iff_ne.mpr c1, Bool.false_and, Bool.false_and, ite_self]
      exact Ev.neg (by omega) (Ev.now _)
section
variable (a : Int) (es : List S69) (kind : Int) (ls : List (List Int)) (st : List Int → List Int → Bool) (hls : ls.length ≤ 1024) (hst : ∀ x ∈ ls, ∀ y ∈ ls, Ev (fun k => spec_l3Step.f k a es kind x y) (st x y)) (R : List S69) (hR : R.length ≤ 1048576)
include hls hst hR
theorem row_loop (i : Nat) (hi : i < ls.length) (hnext : ∀ acc, acc ++ allSteps st (i + 1) (ls.drop (i + 1)) = R → Ev (fun k => spec_l3Space.l0 k kind ls ((i + 1 : Nat) : Int) a es ls acc) (ls, R)) (d : Nat) :
    ∀ (m : Nat) (acc : List S69), ls.length - m = d → m ≤ ls.length → acc ++ rowSteps st ls[i] i m (ls.drop m) ++ allSteps st (i + 1) (ls.drop (i + 1)) = R → Ev (fun k => spec_l3Space.l1 k kind ls (i : Int) (m : Int) a es ls acc) (ls, R) := by
  induction d with
  | zero =>
    intro m acc h0 h1 h2
    rw [List.drop_eq_nil_of_le (show ls.length ≤ m by omega), rowSteps, List.append_nil] at h2
    refine Ev.step (fun k => by rw [spec_l3Space.l1]) (Ev.neg (by omega) ?_)
    rw [wrap_up hi (by omega)]
    exact hnext acc h2
  | succ d ih =>
    intro m acc h0 h1 h2
    have hm : m < ls.length := by omega
    have hal : acc.length ≤ 1048576 := by
      have := congrArg List.length h2
      simp only [List.length_append] at this
      omega
    rw [List.drop_eq_getElem_cons hm, rowSteps] at h2
    refine Ev.step (fun k => by rw [spec_l3Space.l1]) (Ev.pos (by omega) (Ev.pos (by omega) (Ev.pos (by omega) (Ev.pos (by omega) ?_))))
    rw [rdL_at ls i hi, rdL_at ls m hm, wrap_up hm (by omega)]
    refine Ev.bind (hst _ (List.getElem_mem _) _ (List.getElem_mem _)) ?_
    cases c : st ls[i] ls[m] with
    | true =>
      rw [c, if_pos rfl] at h2
      refine Ev.pos rfl (Ev.pos (by omega) ?_)
      exact ih (m + 1) _ (by omega) (by omega) (by simpa only [List.append_assoc] using h2)
    | false =>
      rw [c, if_neg (by decide), List.nil_append] at h2
      exact Ev.neg (by decide) (ih (m + 1) _ (by omega) (by omega) h2)
theorem all_loop (d : Nat) : ∀ (i : Nat) (acc : List S69), ls.length - i = d → i ≤ ls.length → acc ++ allSteps st i (ls.drop i) = R → Ev (fun k => spec_l3Space.l0 k kind ls (i : Int) a es ls acc) (ls, R) := by
  induction d with
  | zero =>
    intro i acc h0 h1 h2
    rw [List.drop_eq_nil_of_le (show ls.length ≤ i by omega), allSteps, List.append_nil] at h2
    refine Ev.step (fun k => by rw [spec_l3Space.l0]) (Ev.neg (by omega) ?_)
    rw [h2]
    exact Ev.now _
  | succ d ih =>
    intro i acc h0 h1 h2
    have hi : i < ls.length := by omega
    rw [List.drop_eq_getElem_cons hi, allSteps, ← List.append_assoc] at h2
    refine Ev.step (fun k => by rw [spec_l3Space.l0]) (Ev.pos (by omega) ?_)
    rw [wrap_up hi (by omega)]
    exact row_loop a es kind ls st hls hst R hR i hi (fun acc' h => ih (i + 1) acc' (by omega) (by omega) h) _ (i + 1) acc rfl (by omega) h2
end
theorem l3Space_ev (a : Int) (es : List S69) (kind : Int) (ls : List (List Int)) (st : List Int → List Int → Bool) (hls : ls.length ≤ 1024) (hst : ∀ x ∈ ls, ∀ y ∈ ls, Ev (fun k => spec_l3Step.f k a es kind x y) (st x y)) : Ev (fun k => spec_l3Space.f k a es kind ls) (ls, allSteps st 0 ls) := by
  have h1 := allSteps_len st ls 0
  have h4 : ls.length * ls.length ≤ 1024 * 1024 := Nat.mul_le_mul hls hls
  have := all_loop a es kind ls st hls hst (allSteps st 0 ls) (by omega) ls.length 0 [] (by omega) (by omega) (by rw [List.drop_zero, List.nil_append])
  unfold spec_l3Space.f
  simpa only [Int.natCast_zero] using this
/-- What holds of each pair of a list from some round on holds of all of them from some round on. -/
theorem ev_all {α β : Type} (t : List α) (f : Nat → α → Option β) (g : α → β) (h : ∀ x ∈ t, Ev (fun k => f k x) (g x)) : ∃ K, ∀ k, K ≤ k → ∀ x ∈ t, f k x = some (g x) := by
  induction t with
  | nil => exact ⟨0, fun _ _ x hx => by cases hx⟩
  | cons a t ih =>
    obtain ⟨K, hK⟩ := ih fun x hx => h x (List.mem_cons_of_mem _ hx)
    obtain ⟨K', hK'⟩ := h a (List.mem_cons_self ..)
    refine ⟨max K K', fun k hk x hx => ?_⟩
    rcases List.mem_cons.1 hx with rfl | hx
    · exact hK' k (by omega)
    · exact hK k (by omega) x hx
theorem space_ev (f : Nat → List Int → List Int → Option Bool) (st : List Int → List Int → Bool) (t : List (List Int)) (hl : t.length ≤ 1024) (h : ∀ x ∈ t, ∀ y ∈ t, Ev (fun k => f k x y) (st x y)) (hs : sortLL t = t) : Ev (fun k => spaceR (allAre (f k) st t) st t) (t, allSteps st 0 t, true) := by
  obtain ⟨K, hK⟩ := ev_all (t.flatMap fun x => t.map fun y => (x, y)) (fun k p => f k p.1 p.2) (fun p => st p.1 p.2) fun p hp => by
    obtain ⟨x, hx, hp⟩ := List.mem_flatMap.1 hp
    obtain ⟨y, hy, rfl⟩ := List.mem_map.1 hp
    exact h x hx y hy
  refine ⟨K, fun k hk => ?_⟩
  show spaceR _ _ _ = _
  unfold spaceR
  rw [if_pos ⟨hl, decide_eq_true fun x hx y hy => hK k hk (x, y) (List.mem_flatMap.2 ⟨x, hx, List.mem_map.2 ⟨y, hy, rfl⟩⟩)⟩, hs]
theorem freeS_sorted {n : Nat} (hn : n ≤ 8) (e : List S69) (lo hi : Int) : sortLL (freeS n e lo hi) = freeS n e lo hi :=
  lex_unique _ _ (sortLL_lex _ (freeS_lex hn e lo hi).nodup) (freeS_lex hn e lo hi) fun s => sortLL_mem _ _
theorem freeS_8 {n : Nat} (hn : n ≤ 8) {e : List S69} {lo hi : Int} {s : List Int} (h : s ∈ freeS n e lo hi) : SetN 8 s := ((freeS_mem hn e lo hi s).1 h).1.wide hn
end Go.Proofs.YtadjbmcfgjmhkaaGreat.P
namespace Go.Proofs.YtadjbmcfgjmhkaaGreat.P
open Go.RowKit Go.Proofs.YtadjbmcfgjmhkaaGreatW.PrintWords Go.Proofs.YtadjbmcfgjmhkaaGreatW.PrintLast Go.Proofs.YtadjbmcfgjmhkaaGreatW.PrintMore
set_option linter.unusedVariables false
set_option linter.unusedSimpArgs false

def seqI : Nat → Int → List Int
  | 0, _ => []
  | n + 1, k => k :: seqI n (wrap64 (k + 1))
def endI : Nat → Int → Int
  | 0, k => k
  | n + 1, k => endI n (wrap64 (k + 1))
theorem seqI_len (n : Nat) : ∀ k, (seqI n k).length = n := by
  induction n with
  | zero => intro k; rfl
  | succ n ih => intro k; simp [seqI, ih]
theorem endI_at (n : Nat) : ∀ k, 0 ≤ k → k + (n : Int) ≤ 4611686018427387904 → endI n k = k + (n : Int) := by
  induction n with
  | zero => intro k h1 h2; simp [endI]
  | succ n ih =>
    intro k h1 h2
    have e1 : wrap64 (k + 1) = k + 1 := wrap_nat (by omega) (by omega)
    rw [endI, e1, ih (k + 1) (by omega) (by omega)]
    omega
theorem heldInt_loop (d : Nat) : ∀ (done : List Int) (c : Int), done.length + d ≤ 1048576 →
    Ev (fun k => laws_heldIntS.l0 k (done ++ seqI d c) c (done.length : Int)) (endI d c) := by
  induction d with
  | zero =>
    intro done c h1
    refine Ev.step (fun k => by rw [laws_heldIntS.l0]) ?_
    refine Ev.neg (by simp [seqI]) ?_
    exact Ev.now _
  | succ d ih =>
    intro done c h1
    refine Ev.step (fun k => by rw [laws_heldIntS.l0]) ?_
    have hlen : (done ++ seqI (d + 1) c).length = done.length + (d + 1) := by rw [List.length_append, seqI_len]
    refine Ev.pos (by rw [hlen]; omega) (Ev.pos (by omega) ?_)
    have hr : rd (done ++ seqI (d + 1) c) (done.length : Int) = c := by
      rw [rd_at _ _ (by rw [hlen]; omega)]
      simp [seqI]
    refine Ev.pos hr ?_
    have hw : wrap64 ((done.length : Int) + 1) = ((done ++ [c]).length : Int) := by
      rw [List.length_append, List.length_singleton]
      exact wrap_up (n := done.length + 1) (by omega) (by omega)
    rw [hw]
    have := ih (done ++ [c]) (wrap64 (c + 1)) (by rw [List.length_append, List.length_singleton]; omega)
    simpa only [seqI, endI, List.append_assoc, List.singleton_append] using this
theorem heldInt_ev (n : Nat) (c : Int) (hn : n ≤ 1048576) : Ev (fun k => laws_heldIntS.f k (seqI n c) c) (endI n c) := by
  unfold laws_heldIntS.f
  have := heldInt_loop n [] c (by simpa using hn)
  simpa only [List.nil_append, List.length_nil, Int.ofNat_eq_natCast, Int.natCast_zero] using this
end Go.Proofs.YtadjbmcfgjmhkaaGreat.P
namespace Go.Proofs.YtadjbmcfgjmhkaaGreat.P
open Go.RowKit Go.Proofs.YtadjbmcfgjmhkaaGreatW.PrintWords Go.Proofs.YtadjbmcfgjmhkaaGreatW.PrintLast Go.Proofs.YtadjbmcfgjmhkaaGreatW.PrintMore
set_option linter.unusedVariables false
set_option linter.unusedSimpArgs false

theorem seqS_eq (n : Nat) : ∀ k, seqS n k = seqI n k := by
  induction n with
  | zero => intro k; rfl
  | succ n ih => intro k; simp only [seqS, seqI, ih]
theorem endS_eq (n : Nat) : ∀ k, endS n k = endI n k := by
  induction n with
  | zero => intro k; rfl
  | succ n ih => intro k; simp only [endS, endI, ih]
theorem markSS_fst (l : List (List Int)) : ∀ (k : Int), (∀ s ∈ l, s.length ≤ 1048576) → 0 ≤ k → k + 1048576 * (l.length : Int) ≤ 2305843009213693952 → 0 ≤ (markSS l k).1 ∧ (markSS l k).1 ≤ k + 1048576 * (l.length : Int) := by
  induction l with
  | nil => intro k _ h0 h1; simp only [markSS, List.length_nil]; omega
  | cons s t ih =>
    intro k hs h0 h1
    have h2 := hs s (.head _)
    rw [List.length_cons] at h1 ⊢
    have e1 : endS s.length k = k + (s.length : Int) := by rw [endS_eq, endI_at s.length k h0 (by omega)]
    simp only [markSS, e1]
    have := ih (k + (s.length : Int)) (fun q hq => hs q (.tail _ hq)) (by omega) (by omega)
    omega
theorem markSS_at (l : List (List Int)) (k : Int) : laws_markIntSS.f l k = some ((markSS l k).1, (markSS l k).2) := rfl
theorem markSS_pos (l : List (List Int)) (h0 : l.length ≤ 1048576) (h : ∀ s ∈ l, s.length ≤ 1048576) : ¬ (markSS l 1).1 < 0 := by
  have h1 := markSS_fst l 1 h (by omega) (by omega)
  omega
theorem markGraph_ex (a : Int) (l : List S69) (h : l.length ≤ 1048576) : ∃ k b, laws_markGraph.f a l 1 = some (k, b) ∧ ¬ k < 0 ∧ k ≤ 2251799813685248 := ⟨_, _, markGraph_at a l 1, mark1_pos l h, by rw [mark2_fst l 1 (by omega) (by omega)]; omega⟩
theorem heldSS_loop (done : List (List Int)) : ∀ (t : List (List Int)) (k : Int), (∀ s ∈ t, s.length ≤ 1048576) → 0 ≤ k → k + 1048576 * (t.length : Int) ≤ 2305843009213693952 → done.length + t.length ≤ 1048576 → Ev (fun n => laws_heldIntSS.l0 n (done ++ (markSS t k).2) k (done.length : Int)) (markSS t k).1 := by
  intro t
  induction t generalizing done with
  | nil =>
    intro k _ h0 h1 h2
    refine Ev.step (fun n => by rw [laws_heldIntSS.l0]) (Ev.neg (by simp [markSS]) ?_)
    exact Ev.now _
  | cons s t ih =>
    intro k hs h0 h1 h2
    have h3 := hs s (.head _)
    rw [List.length_cons] at h1 h2
    have e1 : endS s.length k = k + (s.length : Int) := by rw [endS_eq, endI_at s.length k h0 (by omega)]
    simp only [markSS, e1]
    have hlen : done.length < (done ++ seqS s.length k :: (markSS t (k + (s.length : Int))).2).length := by simp
    refine Ev.step (fun n => by rw [laws_heldIntSS.l0]) (Ev.pos (by omega) (Ev.pos (by omega) ?_))
    rw [rdL_at _ done.length hlen, List.getElem_append_right (Nat.le_refl _)]
    simp only [Nat.sub_self, List.getElem_cons_zero]
    have hh := heldInt_ev s.length k h3
    rw [← seqS_eq, ← endS_eq, e1] at hh
    refine Ev.bind hh (Ev.neg (by omega) ?_)
    have := ih (done ++ [seqS s.length k]) (k + (s.length : Int)) (fun q hq => hs q (.tail _ hq)) (by omega) (by omega) (by simp; omega)
    rw [List.append_assoc, List.singleton_append] at this
    have ew : wrap64 ((done.length : Int) + 1) = ((done ++ [seqS s.length k]).length : Int) := by
      rw [List.length_append, List.length_singleton]; unfold wrap64; omega
    rw [ew]
    exact this
theorem heldSS_ev (t : List (List Int)) (h : ∀ s ∈ t, s.length ≤ 1048576) (hl : t.length ≤ 1048576) : Ev (fun n => laws_heldIntSS.f n (markSS t 1).2 1) (markSS t 1).1 := by
  have := heldSS_loop [] t 1 h (by omega) (by omega) (by simpa using hl)
  simpa [laws_heldIntSS.f] using this
theorem markSS_held (l : List (List Int)) (h : l.length ≤ 1048576 ∧ ∀ s ∈ l, s.length ≤ 1048576) : ∃ k b, laws_markIntSS.f l 1 = some (k, b) ∧ ∃ m, laws_heldIntSS.f m b 1 = some k ∧ ¬ k < 0 := by
  obtain ⟨m, hm⟩ := Ev.rounds (heldSS_ev l h.2 h.1)
  exact ⟨_, _, markSS_at l 1, m, hm, markSS_pos l h.1 h.2⟩
end Go.Proofs.YtadjbmcfgjmhkaaGreat.P
namespace Go.Proofs.YtadjbmcfgjmhkaaGreat.P
open Go.RowKit Go.Proofs.YtadjbmcfgjmhkaaGreatW.PrintWords Go.Proofs.YtadjbmcfgjmhkaaGreatW.PrintLast Go.Proofs.YtadjbmcfgjmhkaaGreatW.PrintMore
set_option linter.unusedVariables false
set_option linter.unusedSimpArgs false

/-- The space of the independent sets with lo to hi nodes. -/
def tokR (a : Int) (e : List S69) (k0 lo hi kind : Int) : List (List Int) × List S69 × Bool :=
  if (okG a e && (decide (0 ≤ k0) && decide (k0 ≤ 8))) = true then (freeS a.toNat e lo hi, allSteps (stepS e kind) 0 (freeS a.toNat e lo hi), true) else ([], [], false)
theorem l3tok_ev (n : Nat) (hn : n ≤ 8) (e : List S69) (he : e.length ≤ 1048576) (lo hi kind : Int) : Ev (fun k => spec_l3Space.f k (n : Int) e kind (freeS n e lo hi)) (freeS n e lo hi, allSteps (stepS e kind) 0 (freeS n e lo hi)) := by
  have h2 := freeS_len hn e lo hi
  exact l3Space_ev _ e kind _ _ (by omega) fun x hx y hy => step_ev _ e he kind x y (by have := len8 (freeS_8 hn hx); omega) (by have := len8 (freeS_8 hn hy); omega)
theorem impl_tok_ev (n : Nat) (hn : n ≤ 8) (e : List S69) (lo hi kind : Int) (f : Nat → List Int → List Int → Option Bool) (h : ∀ x y, SetN 8 x → SetN 8 y → Ev (fun k => f k x y) (stepS e kind x y)) : Ev (fun k => spaceR (allAre (f k) (stepS e kind) (freeS n e lo hi)) (stepS e kind) (freeS n e lo hi)) (freeS n e lo hi, allSteps (stepS e kind) 0 (freeS n e lo hi), true) := by
  have h2 := freeS_len hn e lo hi
  exact space_ev f _ _ (by omega) (fun x hx y hy => h x y (freeS_8 hn hx) (freeS_8 hn hy)) (freeS_sorted hn e lo hi)
theorem stepS_slide (e : List S69) : stepS e 0 = slideS e := by funext x y; unfold stepS; rw [if_neg (by decide), if_neg (by decide)]
theorem impl_SlideSpace_ev (a : Int) (e : List S69) (k0 : Int) (he : e.length ≤ 1048576) : Ev (fun k => impl_SlideSpace.f k a e k0) (tokR a e k0 k0 k0 0) := by
  unfold impl_SlideSpace.f tokR
  refine Ev.bind (impl_ind_ev a e k0 he) ?_
  unfold indR
  by_cases c : (okG a e && (decide (0 ≤ k0) && decide (k0 ≤ 8))) = true
  · rw [if_pos c, if_pos c]
    have hg := ((Bool.and_eq_true _ _).mp c).1
    have h1 := okG_all hg
    obtain ⟨n, rfl⟩ := Int.eq_ofNat_of_zero_le h1.1
    refine Ev.pos rfl ?_
    rw [Int.toNat_natCast]
    have := impl_tok_ev n (by omega) e k0 k0 0 (fun k => impl_Graph_isSlide.f k (n : Int) e) (fun x y hx hy => by rw [stepS_slide]; exact slide_ev (n : Int) e he (fun s hs => (h1.2.2 s hs).2.1) hx hy)
    rw [stepS_slide] at this ⊢
    exact this
  · rw [if_neg c, if_neg c]
    exact Ev.neg (by decide) (Ev.now _)
end Go.Proofs.YtadjbmcfgjmhkaaGreat.P
