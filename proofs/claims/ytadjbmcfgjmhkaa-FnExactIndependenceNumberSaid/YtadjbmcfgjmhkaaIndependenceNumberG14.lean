/- spec's l2Sorted: states in order, each once. -/
import Derived.Test.YtadjbmcfgjmhkaaIndependenceNumberG12
import Derived.Test.YtadjbmcfgjmhkaaIndependenceNumberG9
import Derived.Test.YtadjbmcfgjmhkaaIndependenceNumberG8
import Derived.Test.YtadjbmcfgjmhkaaIndependenceNumberG13
import Derived.Test.YtadjbmcfgjmhkaaIndependenceNumberG10
import Derived.Test.YtadjbmcfgjmhkaaIndependenceNumberG11
namespace Go.Proofs.Ytadjbmcfgjmhkaa.P
open Go.RowKit Go.Proofs.YtadjbmcfgjmhkaaW.PrintWords Go.Proofs.YtadjbmcfgjmhkaaW.PrintLast Go.Proofs.YtadjbmcfgjmhkaaW.PrintMore
set_option linter.unusedVariables false
set_option linter.unusedSimpArgs false

theorem own_at (l : List Int) (h : l.length ≤ 1048576) : spec_l1Own.f l = some l := by
  unfold spec_l1Own.f
  rw [Option.bind_some, List.length_nil, if_pos (by omega), List.nil_append]
theorem same_loop (x y : List Int) (hx : x.length ≤ 1048576) (hxy : x.length = y.length) (d : Nat) : ∀ (m : Nat), x.length - m = d → m ≤ x.length → Ev (fun k => spec_l1Same.l0 k x y (m : Int)) (decide (x.drop m = y.drop m)) := by
  induction d with
  | zero =>
    intro m h0 h1
    refine Ev.step (fun k => by rw [spec_l1Same.l0]) (Ev.neg (by omega) ?_)
    rw [List.drop_eq_nil_of_le (by omega), List.drop_eq_nil_of_le (by omega), decide_eq_true rfl]
    exact Ev.now _
  | succ d ih =>
    intro m h0 h1
    have hm : m < x.length := by omega
    have hy : m < y.length := by omega
    refine Ev.step (fun k => by rw [spec_l1Same.l0]) (Ev.pos (by omega) (Ev.pos (by omega) (Ev.pos (by omega) ?_)))
    rw [rd_at x m hm, rd_at y m hy, List.drop_eq_getElem_cons hm, List.drop_eq_getElem_cons hy]
    by_cases c : x[m] = y[m]
    · have := ih (m + 1) (by omega) (by omega)
      rw [show decide (x[m] :: x.drop (m + 1) = y[m] :: y.drop (m + 1)) = decide (x.drop (m + 1) = y.drop (m + 1)) from by rw [decide_eq_decide, List.cons.injEq]; exact ⟨fun h => h.2, fun h => ⟨c, h⟩⟩, wrap_up hm (by omega)]
      exact Ev.pos c this
    · rw [decide_eq_false (fun h => c (by injection h))]
      exact Ev.neg c (Ev.now _)
theorem same_ev (x y : List Int) (hx : x.length ≤ 1048576) : Ev (fun k => spec_l1Same.f k x y) (decide (x = y)) := by
  unfold spec_l1Same.f
  by_cases c : x.length = y.length
  · have := same_loop x y hx c x.length 0 (by omega) (Nat.zero_le _)
    rw [List.drop_zero, List.drop_zero] at this
    exact Ev.pos (by omega) this
  · rw [decide_eq_false (fun h => c (by rw [h]))]
    exact Ev.neg (by omega) (Ev.now _)
theorem lex_ins {o : List (List Int)} (h : LexS o) (s : List Int) (p : Nat) (h1 : ∀ x ∈ o.drop p, befL s x = true) (h2 : ∀ x ∈ o.take p, befL x s = true) :
    LexS (o.take p ++ [s] ++ o.drop p) ∧ ∀ x, x ∈ o.take p ++ [s] ++ o.drop p ↔ x ∈ o ∨ x = s := by
  have hm : ∀ x, x ∈ o ↔ x ∈ o.take p ∨ x ∈ o.drop p := fun x => by rw [← List.mem_append, List.take_append_drop]
  constructor
  · unfold LexS
    rw [List.append_assoc, List.singleton_append, List.pairwise_append, List.pairwise_cons]
    refine ⟨h.sublist (List.take_sublist ..), ⟨h1, h.sublist (List.drop_sublist ..)⟩, fun a ha b hb => ?_⟩
    rcases List.mem_cons.1 hb with rfl | hb
    · exact h2 a ha
    · exact befL_trans _ _ _ (h2 a ha) (h1 b hb)
  · intro x
    rw [hm x]
    simp only [List.mem_append, List.mem_singleton]
    constructor
    · rintro ((h | h) | h)
      · exact .inl (.inl h)
      · exact .inr h
      · exact .inl (.inr h)
    · rintro ((h | h) | h)
      · exact .inl (.inl h)
      · exact .inr h
      · exact .inl (.inr h)
section
variable (ls : List (List Int)) (hls : ls.length ≤ 1048576) (hb : ∀ s ∈ ls, s.length ≤ 1048576)
include hls hb
theorem sorted_in (i : Nat) (hi : i < ls.length) (o : List (List Int)) (ho : LexS o) (hol : o.length ≤ i) (hob : ∀ x ∈ o, x.length ≤ 1048576) : ∀ p : Nat, p ≤ o.length → (∀ x ∈ o.drop p, befL ls[i] x = true) →
    ∃ R, LexS R ∧ R.length ≤ o.length + 1 ∧ (∀ x, x ∈ R ↔ x ∈ o ∨ x = ls[i]) ∧ ∀ F, Ev (fun k => spec_l2Sorted.l0 k ls R (wrap64 ((i : Int) + 1))) F → Ev (fun k => spec_l2Sorted.l1 k ls o (i : Int) (p : Int)) F := by
  have hs := hb ls[i] (List.getElem_mem hi)
  intro p
  induction p with
  | zero =>
    intro hp hd
    obtain ⟨g1, g2⟩ := lex_ins ho ls[i] 0 hd (fun x hx => by simp at hx)
    refine ⟨_, g1, by simp, g2, fun F hF => ?_⟩
    refine Ev.step (fun k => by rw [spec_l2Sorted.l1]) ?_
    refine Ev.neg (by omega) ?_
    refine Ev.step (fun k => by rw [spec_l2Sorted.j2]) ?_
    refine Ev.pos rfl ?_
    refine Ev.bindo rfl ?_
    refine Ev.pos (by omega) ?_
    refine Ev.pos (by omega) ?_
    refine Ev.bindo rfl ?_
    refine Ev.pos (by simp) ?_
    refine Ev.bindo rfl ?_
    refine Ev.pos (by omega) ?_
    refine Ev.pos (by omega) ?_
    rw [rdL_at ls i hi]
    refine Ev.bindo (own_at _ hs) ?_
    refine Ev.pos (by simp) ?_
    refine Ev.bindo rfl ?_
    refine Ev.bindo rfl ?_
    refine Ev.pos (by simp; omega) ?_
    exact hF
  | succ p ih =>
    intro hp hd
    have hpl : p < o.length := by omega
    have hw : wrap64 (((p + 1 : Nat) : Int) - 1) = (p : Int) := by unfold wrap64; omega
    cases c : befL ls[i] o[p] with
    | true =>
      obtain ⟨R, r1, r2, r3, r4⟩ := ih (by omega) (fun x hx => by
        rw [List.drop_eq_getElem_cons hpl] at hx
        rcases List.mem_cons.1 hx with rfl | hx
        · exact c
        · exact hd x hx)
      refine ⟨R, r1, r2, r3, fun F hF => ?_⟩
      refine Ev.step (fun k => by rw [spec_l2Sorted.l1]) ?_
      refine Ev.pos (by omega) ?_
      refine Ev.pos (by omega) ?_
      refine Ev.pos (by omega) ?_
      rw [hw]
      refine Ev.pos (by omega) ?_
      refine Ev.pos (by omega) ?_
      rw [rdL_at ls i hi, rdL_at o p hpl]
      refine Ev.bind (l2Before_ev _ _ hs (hob _ (List.getElem_mem hpl))) ?_
      refine Ev.pos c ?_
      exact r4 F hF
    | false =>
      by_cases e : o[p] = ls[i]
      · refine ⟨o, ho, by omega, fun x => ⟨.inl, fun h => h.elim id fun h => by rw [h, ← e]; exact List.getElem_mem hpl⟩, fun F hF => ?_⟩
        refine Ev.step (fun k => by rw [spec_l2Sorted.l1]) ?_
        refine Ev.pos (by omega) ?_
        refine Ev.pos (by omega) ?_
        refine Ev.pos (by omega) ?_
        rw [hw]
        refine Ev.pos (by omega) ?_
        refine Ev.pos (by omega) ?_
        rw [rdL_at ls i hi, rdL_at o p hpl]
        refine Ev.bind (l2Before_ev _ _ hs (hob _ (List.getElem_mem hpl))) ?_
        refine Ev.neg (by rw [c]; decide) ?_
        refine Ev.step (fun k => by rw [spec_l2Sorted.j2]) ?_
        refine Ev.neg (by omega) ?_
        rw [hw]
        refine Ev.pos (by omega) ?_
        refine Ev.pos (by omega) ?_
        refine Ev.pos (by omega) ?_
        refine Ev.pos (by omega) ?_
        rw [rdL_at ls i hi, rdL_at o p hpl]
        refine Ev.bind (same_ev _ _ (hob _ (List.getElem_mem hpl))) ?_
        refine Ev.pos (decide_eq_true e) ?_
        exact hF
      · have hlt : befL o[p] ls[i] = true := by
          cases c2 : befL o[p] ls[i] with
          | true => rfl
          | false => exact absurd (befL_tri _ _ c2 c) e
        obtain ⟨g1, g2⟩ := lex_ins ho ls[i] (p + 1) hd (fun x hx => by
          obtain ⟨q, hq, rfl⟩ := List.getElem_of_mem hx
          rw [List.length_take] at hq
          rw [List.getElem_take]
          by_cases hqp : q = p
          · subst hqp; exact hlt
          · exact befL_trans _ _ _ (List.pairwise_iff_getElem.1 ho q p (by omega) hpl (by omega)) hlt)
        refine ⟨_, g1, by simp [List.length_take, List.length_drop]; omega, g2, fun F hF => ?_⟩
        refine Ev.step (fun k => by rw [spec_l2Sorted.l1]) ?_
        refine Ev.pos (by omega) ?_
        refine Ev.pos (by omega) ?_
        refine Ev.pos (by omega) ?_
        rw [hw]
        refine Ev.pos (by omega) ?_
        refine Ev.pos (by omega) ?_
        rw [rdL_at ls i hi, rdL_at o p hpl]
        refine Ev.bind (l2Before_ev _ _ hs (hob _ (List.getElem_mem hpl))) ?_
        refine Ev.neg (by rw [c]; decide) ?_
        refine Ev.step (fun k => by rw [spec_l2Sorted.j2]) ?_
        refine Ev.neg (by omega) ?_
        rw [hw]
        refine Ev.pos (by omega) ?_
        refine Ev.pos (by omega) ?_
        refine Ev.pos (by omega) ?_
        refine Ev.pos (by omega) ?_
        rw [rdL_at ls i hi, rdL_at o p hpl]
        refine Ev.bind (same_ev _ _ (hob _ (List.getElem_mem hpl))) ?_
        refine Ev.neg (by rw [decide_eq_false e]; decide) ?_
        refine Ev.bindo rfl ?_
        refine Ev.pos (by omega) ?_
        refine Ev.pos (by omega) ?_
        refine Ev.bindo rfl ?_
        rw [Int.toNat_natCast]
        refine Ev.pos (by simp [List.length_take]; omega) ?_
        refine Ev.bindo rfl ?_
        refine Ev.bindo (own_at _ hs) ?_
        refine Ev.pos (by simp [List.length_take]; omega) ?_
        refine Ev.bindo rfl ?_
        refine Ev.bindo rfl ?_
        refine Ev.pos (by simp [List.length_take, List.length_drop]; omega) ?_
        exact hF
theorem sorted_loop (d : Nat) : ∀ (m : Nat) (o : List (List Int)), ls.length - m = d → m ≤ ls.length → LexS o → o.length ≤ m → (∀ x, x ∈ o ↔ x ∈ ls.take m) →
    ∃ R, LexS R ∧ R.length ≤ ls.length ∧ (∀ x, x ∈ R ↔ x ∈ ls) ∧ Ev (fun k => spec_l2Sorted.l0 k ls o (m : Int)) R := by
  induction d with
  | zero =>
    intro m o h0 h1 h2 h3 h4
    refine ⟨o, h2, by omega, fun x => by rw [h4 x, List.take_of_length_le (by omega)], ?_⟩
    refine Ev.step (fun k => by rw [spec_l2Sorted.l0]) ?_
    exact Ev.neg (by omega) (Ev.now _)
  | succ d ih =>
    intro m o h0 h1 h2 h3 h4
    have hm : m < ls.length := by omega
    obtain ⟨R, r1, r2, r3, r4⟩ := sorted_in ls hls hb m hm o h2 h3 (fun x hx => hb x (List.mem_of_mem_take ((h4 x).1 hx))) o.length (Nat.le_refl _) (fun x hx => by rw [List.drop_length] at hx; simp at hx)
    obtain ⟨R', q1, q2, q3, q4⟩ := ih (m + 1) R (by omega) (by omega) r1 (by omega) (fun x => by
      rw [r3 x, h4 x, List.take_succ_eq_append_getElem hm, List.mem_append, List.mem_singleton])
    rw [← wrap_up hm (by omega)] at q4
    refine ⟨R', q1, q2, q3, ?_⟩
    refine Ev.step (fun k => by rw [spec_l2Sorted.l0]) ?_
    refine Ev.pos (by omega) ?_
    exact r4 R' q4
end
theorem l2Sorted_ev (ls : List (List Int)) (hls : ls.length ≤ 1048576) (hb : ∀ s ∈ ls, s.length ≤ 1048576) : ∃ R, LexS R ∧ R.length ≤ ls.length ∧ (∀ x, x ∈ R ↔ x ∈ ls) ∧ Ev (fun k => spec_l2Sorted.f k ls) R := by
  obtain ⟨R, r1, r2, r3, r4⟩ := sorted_loop ls hls hb ls.length 0 [] (by omega) (Nat.zero_le _) List.Pairwise.nil (Nat.le_refl _) (fun x => by simp)
  refine ⟨R, r1, r2, r3, ?_⟩
  unfold spec_l2Sorted.f
  simpa only [Int.natCast_zero] using r4
theorem l2Sorted_nodup (ls : List (List Int)) (hls : ls.length ≤ 1048576) (hb : ∀ s ∈ ls, s.length ≤ 1048576) (hn : ls.Nodup) : Ev (fun k => spec_l2Sorted.f k ls) (sortLL ls) := by
  obtain ⟨R, r1, r2, r3, r4⟩ := l2Sorted_ev ls hls hb
  rw [← lex_unique R (sortLL ls) r1 (sortLL_lex ls hn) (fun s => by rw [r3, sortLL_mem])]
  exact r4
end Go.Proofs.Ytadjbmcfgjmhkaa.P
namespace Go.Proofs.Ytadjbmcfgjmhkaa.P
open Go.RowKit Go.Proofs.YtadjbmcfgjmhkaaW.PrintWords Go.Proofs.YtadjbmcfgjmhkaaW.PrintLast Go.Proofs.YtadjbmcfgjmhkaaW.PrintMore
set_option linter.unusedVariables false
set_option linter.unusedSimpArgs false

abbrev bagL (b : Int) : List Int := selI (hasI b) 8 0
theorem hasB_fin : ∀ b : Fin 256, ∀ y : Fin 8, (Go.bits .and .i64 (shr .i64 b y) 1 == 1) = hasI b y := by decide +kernel
theorem hasB_at {b y : Int} (hb : 0 ≤ b ∧ b < 256) (hy : 0 ≤ y ∧ y < 8) : (Go.bits .and .i64 (shr .i64 b y) 1 = 1) ↔ hasI b y = true := by
  obtain ⟨i, rfl⟩ := fin_of (n := 256) hb.1 hb.2
  obtain ⟨j, rfl⟩ := fin_of (n := 8) hy.1 hy.2
  have := hasB_fin i j
  rw [← this, beq_iff_eq]
theorem high_fin : ∀ n : Fin 9, ∀ b : Fin 256, decide (b.val < 2 ^ n.val) = (List.range 8).all (fun y => decide (y < n.val) || !hasI b y) := by decide +kernel
theorem high_at {n : Nat} {b : Int} (hn : n ≤ 8) (hb : 0 ≤ b ∧ b < 256) : b < ((2 ^ n : Nat) : Int) ↔ ∀ y : Int, (n : Int) ≤ y → y < 8 → hasI b y = false := by
  obtain ⟨i, rfl⟩ := fin_of (n := 256) hb.1 hb.2
  have h := high_fin ⟨n, by omega⟩ i
  have e1 : ((i.val : Int) < ((2 ^ n : Nat) : Int)) ↔ decide (i.val < 2 ^ n) = true := by rw [decide_eq_true_eq]; omega
  rw [e1, h, List.all_eq_true]
  constructor
  · intro h y h0 h1
    have := h y.toNat (by rw [List.mem_range]; omega)
    simp only [Bool.or_eq_true, decide_eq_true_eq, Bool.not_eq_true'] at this
    rw [show ((y.toNat : Nat) : Int) = y by omega] at this
    exact this.resolve_left (by omega)
  · intro h y hy
    rw [List.mem_range] at hy
    by_cases c : y < n
    · simp [c]
    · have := h (y : Int) (by omega) (by omega)
      simp [this]
theorem bag_left : ∀ b : Fin 256, bagI 0 (selI (hasI b) 8 0) = b := by decide +kernel
theorem bag_left_at {b : Int} (hb : 0 ≤ b ∧ b < 256) : bagI 0 (bagL b) = b := by
  obtain ⟨i, rfl⟩ := fin_of (n := 256) hb.1 hb.2
  exact bag_left i
theorem bits_loop (n : Int) (b : Int) (hn : n ≤ 8) (hb : 0 ≤ b ∧ b < 256) (d : Nat) : ∀ (y : Int) (acc : List Int), (n - y).toNat = d → 0 ≤ y → acc.length + d ≤ 1000 → Ev (fun k => spec_l2Bits.l0 k n b acc y) (acc ++ selI (hasI b) d y) := by
  induction d with
  | zero =>
    intro y acc h0 h1 h2
    refine Ev.step (fun k => by rw [spec_l2Bits.l0]) (Ev.neg (by omega) ?_)
    simp only [selI, List.append_nil]
    exact Ev.now _
  | succ d ih =>
    intro y acc h0 h1 h2
    refine Ev.step (fun k => by rw [spec_l2Bits.l0]) (Ev.pos (by omega) (Ev.pos (by omega) ?_))
    have hw : wrap64 (y + 1) = y + 1 := wrap_nat (by omega) (by omega)
    rw [hw, selI]
    by_cases c : hasI b y = true
    · rw [if_pos c, ← List.append_assoc]
      refine Ev.pos ((hasB_at hb ⟨h1, by omega⟩).2 c) (Ev.pos (by omega) ?_)
      exact ih (y + 1) _ (by omega) (by omega) (by rw [List.length_append, List.length_singleton]; omega)
    · rw [if_neg c, List.nil_append]
      exact Ev.neg (fun h => c ((hasB_at hb ⟨h1, by omega⟩).1 h)) (ih (y + 1) acc (by omega) (by omega) (by omega))
theorem bits_ev (n : Nat) (b : Int) (hn : n ≤ 8) (hb : 0 ≤ b ∧ b < ((2 ^ n : Nat) : Int)) : Ev (fun k => spec_l2Bits.f k (n : Int) b) (bagL b) := by
  have hpow : 2 ^ n ≤ 256 := Nat.pow_le_pow_right (n := 2) (by decide) (show n ≤ 8 from hn)
  have h := bits_loop (n : Int) b (by omega) ⟨hb.1, by omega⟩ n 0 [] (by omega) (by omega) (by simp; omega)
  unfold spec_l2Bits.f
  have e : bagL b = selI (hasI b) n 0 := by
    unfold bagL
    rw [show 8 = n + (8 - n) by omega, selI_add, selI_none _ (8 - n), List.append_nil]
    intro z h0 h1
    exact (high_at hn ⟨hb.1, by omega⟩).1 hb.2 z (by omega) (by omega)
  rw [e]
  simpa only [List.nil_append] using h
/-- A set of nodes. -/
def SetN (n : Nat) (s : List Int) : Prop := s.Pairwise (· < ·) ∧ ∀ x ∈ s, 0 ≤ x ∧ x < (n : Int)
theorem SetN.ris {n : Nat} {s : List Int} (h : SetN n s) : risI 0 ((n : Int) - 1) none s = true := risI_of _ _ s none h.1 (fun x hx => by have := h.2 x hx; omega) (fun q e => by cases e)
theorem SetN.wide {n m : Nat} {s : List Int} (h : SetN n s) (hm : n ≤ m) : SetN m s := ⟨h.1, fun x hx => by have := h.2 x hx; omega⟩
theorem selI_pw (f : Int → Bool) (d : Nat) : ∀ y, (selI f d y).Pairwise (· < ·) := by
  induction d with
  | zero => intro y; exact List.Pairwise.nil
  | succ d ih =>
    intro y
    simp only [selI]
    by_cases c : f y = true
    · rw [if_pos c, List.singleton_append, List.pairwise_cons]
      exact ⟨fun z hz => by have := ((selI_mem f d (y + 1) z).1 hz).1; omega, ih (y + 1)⟩
    · rw [if_neg c, List.nil_append]
      exact ih (y + 1)
theorem bagL_set {n : Nat} {b : Int} (hn : n ≤ 8) (hb : 0 ≤ b ∧ b < ((2 ^ n : Nat) : Int)) : SetN n (bagL b) := by
  have hpow : 2 ^ n ≤ 256 := Nat.pow_le_pow_right (n := 2) (by decide) (show n ≤ 8 from hn)
  refine ⟨selI_pw _ _ _, fun x hx => ?_⟩
  obtain ⟨h1, h2⟩ := (selI_mem _ _ _ _).1 hx
  have h3 := (high_at hn ⟨hb.1, by omega⟩).1 hb.2
  refine ⟨by omega, ?_⟩
  by_cases c : x < (n : Int)
  · exact c
  · have := h3 x (by omega) (by omega)
    rw [h2] at this
    exact absurd this (by decide)
theorem pw_unique {l1 l2 : List Int} (h1 : l1.Pairwise (· < ·)) (h2 : l2.Pairwise (· < ·)) (h : ∀ x, x ∈ l1 ↔ x ∈ l2) : l1 = l2 := by
  induction l1 generalizing l2 with
  | nil =>
    cases l2 with
    | nil => rfl
    | cons b u => exact absurd ((h b).2 (List.mem_cons_self ..)) (by simp)
  | cons a t ih =>
    cases l2 with
    | nil => exact absurd ((h a).1 (List.mem_cons_self ..)) (by simp)
    | cons b u =>
      have p1 := List.pairwise_cons.1 h1
      have p2 := List.pairwise_cons.1 h2
      have hab : a = b := by
        rcases List.mem_cons.1 ((h a).1 (List.mem_cons_self ..)) with e | e
        · exact e
        · rcases List.mem_cons.1 ((h b).2 (List.mem_cons_self ..)) with e2 | e2
          · exact e2.symm
          · have := p1.1 b e2
            have := p2.1 a e
            omega
      subst hab
      rw [ih p1.2 p2.2 fun s => ?_]
      constructor
      · intro hs
        rcases List.mem_cons.1 ((h s).1 (List.mem_cons_of_mem _ hs)) with e | e
        · have := p1.1 s hs; omega
        · exact e
      · intro hs
        rcases List.mem_cons.1 ((h s).2 (List.mem_cons_of_mem _ hs)) with e | e
        · have := p2.1 s hs; omega
        · exact e
theorem bag_list_set {l : List Int} (h : risI 0 (((8 : Nat) : Int) - 1) none l = true) : bagL (bagI 0 l) = l := by
  have hp := risI_pw _ _ l none h
  have hx : ∀ x ∈ l, 0 ≤ x ∧ x < 8 := fun x hx => by have := risI_all _ _ l none h x hx; omega
  have hb := (bagI_at l 0 (by omega) hx).2
  refine pw_unique (selI_pw _ _ _) hp.1 fun x => ?_
  rw [selI_mem]
  constructor
  · rintro ⟨h1, h2⟩
    rw [hb x (by omega) (by omega), hasI_nil (by omega) (by omega), Bool.false_or, decide_eq_true_eq] at h2
    exact h2
  · intro hx'
    have := hx x hx'
    refine ⟨by omega, ?_⟩
    rw [hb x (by omega) (by omega), hasI_nil (by omega) (by omega), Bool.false_or, decide_eq_true_eq]
    exact hx'
theorem SetN.code {n : Nat} {s : List Int} (hn : n ≤ 8) (h : SetN n s) : (0 ≤ bagI 0 s ∧ bagI 0 s < ((2 ^ n : Nat) : Int)) ∧ bagL (bagI 0 s) = s := by
  have h8 := (h.wide hn).ris
  have hb := bagI_at s 0 (by omega) (fun x hx => by have := h.2 x hx; omega)
  refine ⟨⟨hb.1.1, (high_at hn hb.1).2 fun y h0 h1 => ?_⟩, bag_list_set h8⟩
  rw [hb.2 y (by omega) h1, hasI_nil (by omega) h1, Bool.false_or, decide_eq_false_iff_not]
  intro hy
  have := h.2 y hy
  omega
theorem codes_mem {n : Nat} (hn : n ≤ 8) (p : Int → Bool) (s : List Int) : s ∈ codesL p (2 ^ n) ↔ SetN n s ∧ p (bagI 0 s) = true := by
  have hpow : 2 ^ n ≤ 256 := Nat.pow_le_pow_right (n := 2) (by decide) (show n ≤ 8 from hn)
  unfold codesL
  rw [List.mem_map]
  constructor
  · rintro ⟨b, hb, rfl⟩
    obtain ⟨h1, h2⟩ := (selI_mem _ _ _ _).1 hb
    have h3 : 0 ≤ b ∧ b < ((2 ^ n : Nat) : Int) := ⟨h1.1, by omega⟩
    refine ⟨bagL_set hn h3, ?_⟩
    rw [bag_left_at ⟨h3.1, by omega⟩]
    exact h2
  · rintro ⟨h1, h2⟩
    have h3 := h1.code hn
    exact ⟨bagI 0 s, (selI_mem _ _ _ _).2 ⟨by have := h3.1; omega, h2⟩, h3.2⟩
theorem codes_nodup {n : Nat} (hn : n ≤ 256) (p : Int → Bool) : (codesL p n).Nodup := by
  unfold codesL
  refine List.Pairwise.map _ ?_ (List.Pairwise.and_mem.1 (selI_pw p n 0))
  rintro a b ⟨ha, hb, hab⟩ e
  have h1 := ((selI_mem _ _ _ _).1 ha).1
  have h2 := ((selI_mem _ _ _ _).1 hb).1
  have := congrArg (bagI 0) e
  rw [bag_left_at ⟨by omega, by omega⟩, bag_left_at ⟨by omega, by omega⟩] at this
  omega
theorem SetN.len {n : Nat} {s : List Int} (h : SetN n s) : s.length ≤ n := by
  have : ∀ (s : List Int) (a : Int), s.Pairwise (· < ·) → (∀ x ∈ s, a ≤ x ∧ x < (n : Int)) → (s.length : Int) ≤ (n : Int) - a ∨ s = [] := by
    intro s
    induction s with
    | nil => intro a _ _; exact .inr rfl
    | cons x t ih =>
      intro a h1 h2
      have p1 := List.pairwise_cons.1 h1
      have hx := h2 x (List.mem_cons_self ..)
      rcases ih (x + 1) p1.2 (fun y hy => ⟨by have := p1.1 y hy; omega, (h2 y (List.mem_cons_of_mem _ hy)).2⟩) with h3 | h3
      · exact .inl (by rw [List.length_cons]; omega)
      · subst h3
        exact .inl (by rw [List.length_singleton]; omega)
  rcases this s 0 h.1 h.2 with h3 | h3
  · omega
  · subst h3; exact Nat.zero_le _
end Go.Proofs.Ytadjbmcfgjmhkaa.P
namespace Go.Proofs.Ytadjbmcfgjmhkaa.P
open Go.RowKit Go.Proofs.YtadjbmcfgjmhkaaW.PrintWords Go.Proofs.YtadjbmcfgjmhkaaW.PrintLast Go.Proofs.YtadjbmcfgjmhkaaW.PrintMore
set_option linter.unusedVariables false

def freeN (e : List S70) (l : List Int) (r : Bool) : Nat → Nat → Bool
  | 0, _ => r
  | d + 1, i => if (l.take i).any (fun y => hasP e y (l[i]?.getD 0)) = true then false else freeN e l r d (i + 1)
theorem freeN_iff (e : List S70) (l : List Int) (r : Bool) (d : Nat) : ∀ i, freeN e l r d i = true ↔ r = true ∧ ∀ q, i ≤ q → q < i + d → ∀ y ∈ l.take q, ¬ hasP e y (l[q]?.getD 0) = true := by
  induction d with
  | zero => intro i; simp only [freeN]; exact ⟨fun h => ⟨h, fun q h1 h2 => by omega⟩, fun h => h.1⟩
  | succ d ih =>
    intro i
    simp only [freeN]
    by_cases c : (l.take i).any (fun y => hasP e y (l[i]?.getD 0)) = true
    · rw [if_pos c]
      refine ⟨fun h => by simp at h, fun h => ?_⟩
      obtain ⟨y, hy, hc⟩ := List.any_eq_true.1 c
      exact absurd hc (h.2 i (Nat.le_refl _) (by omega) y hy)
    · rw [if_neg c, ih]
      refine and_congr_right fun _ => ⟨fun h q h1 h2 y hy hc => ?_, fun h q h1 h2 => h q (by omega) (by omega)⟩
      by_cases hq : q = i
      · subst hq
        exact c (List.any_eq_true.2 ⟨y, hy, hc⟩)
      · exact h q (by omega) (by omega) y hy hc
section
variable (a : Int) (e : List S70) (l : List Int) (he : e.length ≤ 1048576) (hl : l.length ≤ 1048576)
include he hl
theorem free_row {R : Bool} (i : Nat) (hi : i < l.length) (d : Nat) : ∀ (j : Nat), i - j = d → j ≤ i → Ev (fun k => spec_l3Free.l0 k l (wrap64 ((i : Int) + 1)) a e) R →
    Ev (fun k => spec_l3Free.l1 k l (i : Int) (j : Int) a e) (if ((l.take i).drop j).any (fun y => hasP e y (l[i]?.getD 0)) = true then false else R) := by
  induction d with
  | zero =>
    intro j h0 h1 h
    refine Ev.step (fun k => by rw [spec_l3Free.l1]) (Ev.neg (by omega) ?_)
    rw [List.drop_eq_nil_of_le (by rw [List.length_take]; omega), List.any_nil, if_neg (by decide)]
    exact h
  | succ d ih =>
    intro j h0 h1 h
    have hj : j < l.length := by omega
    refine Ev.step (fun k => by rw [spec_l3Free.l1]) (Ev.pos (by omega) (Ev.pos (by omega) (Ev.pos (by omega) (Ev.pos (by omega) (Ev.pos (by omega) ?_)))))
    rw [rd_at l j hj, rd_at l i hi]
    refine Ev.bind (near_ev a e l[j] l[i] he) ?_
    have hd : (l.take i).drop j = l[j] :: (l.take i).drop (j + 1) := by
      rw [List.drop_eq_getElem_cons (by rw [List.length_take]; omega), List.getElem_take]
    rw [hd, List.any_cons, List.getElem?_eq_getElem hi, Option.getD_some]
    by_cases c : hasP e l[j] l[i] = true
    · rw [c, Bool.true_or, if_pos rfl]
      exact Ev.pos rfl (Ev.now _)
    · have c' : hasP e l[j] l[i] = false := by simpa using c
      rw [c', Bool.false_or, wrap_up hj (by omega)]
      have := ih (j + 1) (by omega) (by omega) h
      rw [List.getElem?_eq_getElem hi, Option.getD_some] at this
      exact Ev.neg (by decide) this
theorem free_loop (d : Nat) : ∀ (i : Nat), l.length - i = d → i ≤ l.length → Ev (fun k => spec_l3Free.l0 k l (i : Int) a e) (freeN e l (risI 0 (wrap64 (a - 1)) none l) d i) := by
  induction d with
  | zero =>
    intro i h0 h1
    refine Ev.step (fun k => by rw [spec_l3Free.l0]) (Ev.neg (by omega) ?_)
    exact Ev.bind (l2Set_ev a e l hl) (Ev.now _)
  | succ d ih =>
    intro i h0 h1
    have hi : i < l.length := by omega
    refine Ev.step (fun k => by rw [spec_l3Free.l0]) (Ev.pos (by omega) ?_)
    have h := ih (i + 1) (by omega) (by omega)
    rw [← wrap_up hi (by omega)] at h
    have := free_row a e l he hl i hi i 0 (by omega) (by omega) h
    simpa only [List.drop_zero, freeN, Int.natCast_zero] using this
end
theorem l3Free_ev (a : Int) (e : List S70) (l : List Int) (he : e.length ≤ 1048576) (hl : l.length ≤ 1048576) : Ev (fun k => spec_l3Free.f k a e l) (freeN e l (risI 0 (wrap64 (a - 1)) none l) l.length 0) :=
  free_loop a e l he hl l.length 0 (by omega) (Nat.zero_le _)
/-- No edge has both nodes in the set. -/
def freeI (e : List S70) (l : List Int) : Bool := !(e.any fun s => decide (s.f0 ∈ l) && decide (s.f1 ∈ l))
theorem hasP_iff (e : List S70) (x y : Int) : hasP e x y = true ↔ ∃ s ∈ e, (s.f0 = x ∧ s.f1 = y) ∨ (s.f0 = y ∧ s.f1 = x) := by
  unfold hasP
  rw [List.any_eq_true]
  simp only [Bool.or_eq_true, Bool.and_eq_true, decide_eq_true_eq]
theorem freeN_freeI (e : List S70) (l : List Int) (r : Bool) (hu : ∀ s ∈ e, s.f0 < s.f1) : freeN e l r l.length 0 = (r && freeI e l) := by
  rw [Bool.eq_iff_iff, freeN_iff, Bool.and_eq_true]
  refine and_congr_right fun _ => ?_
  unfold freeI
  rw [Bool.not_eq_true', List.any_eq_false]
  simp only [Bool.and_eq_true, decide_eq_true_eq]
  constructor
  · intro h s hs hc
    obtain ⟨p, hp, h0⟩ := List.getElem_of_mem hc.1
    obtain ⟨q, hq, h1⟩ := List.getElem_of_mem hc.2
    have hne := hu s hs
    have hmem : ∀ p q (hp : p < l.length) (hq : q < l.length), p < q → l[p] ∈ l.take q := by
      intro p q hp hq hpq
      rw [List.mem_take_iff_getElem]
      exact ⟨p, by omega, rfl⟩
    rcases Nat.lt_trichotomy p q with hpq | hpq | hpq
    · refine h q (by omega) (by omega) l[p] (hmem p q hp hq hpq) ?_
      rw [List.getElem?_eq_getElem hq, Option.getD_some, hasP_iff]
      exact ⟨s, hs, .inl ⟨h0.symm, h1.symm⟩⟩
    · subst hpq
      rw [h0] at h1
      omega
    · refine h p (by omega) (by omega) l[q] (hmem q p hq hp hpq) ?_
      rw [List.getElem?_eq_getElem hp, Option.getD_some, hasP_iff]
      exact ⟨s, hs, .inr ⟨h0.symm, h1.symm⟩⟩
  · intro h q _ h2 y hy hc
    have hq : q < l.length := by omega
    rw [List.getElem?_eq_getElem hq, Option.getD_some, hasP_iff] at hc
    obtain ⟨s, hs, hc⟩ := hc
    have hy' : y ∈ l := List.mem_of_mem_take hy
    have hq' : l[q] ∈ l := List.getElem_mem hq
    refine h s hs ?_
    rcases hc with ⟨h0, h1⟩ | ⟨h0, h1⟩
    · exact ⟨h0 ▸ hy', h1 ▸ hq'⟩
    · exact ⟨h0 ▸ hq', h1 ▸ hy'⟩
end Go.Proofs.Ytadjbmcfgjmhkaa.P
namespace Go.Proofs.Ytadjbmcfgjmhkaa.P
open Go.RowKit Go.Proofs.YtadjbmcfgjmhkaaW.PrintWords Go.Proofs.YtadjbmcfgjmhkaaW.PrintLast Go.Proofs.YtadjbmcfgjmhkaaW.PrintMore
set_option linter.unusedVariables false
set_option linter.unusedSimpArgs false

def freeQ (e : List S70) (lo hi b : Int) : Bool := (decide (lo ≤ ((bagL b).length : Int)) && decide (((bagL b).length : Int) ≤ hi)) && freeI e (bagL b)
/-- The independent sets with lo to hi nodes, in order. -/
def freeS (n : Nat) (e : List S70) (lo hi : Int) : List (List Int) := sortLL (codesL (freeQ e lo hi) (2 ^ n))
theorem freeS_mem {n : Nat} (hn : n ≤ 8) (e : List S70) (lo hi : Int) (s : List Int) : s ∈ freeS n e lo hi ↔ SetN n s ∧ (lo ≤ (s.length : Int) ∧ (s.length : Int) ≤ hi) ∧ freeI e s = true := by
  unfold freeS
  rw [sortLL_mem, codes_mem hn]
  refine and_congr_right fun h => ?_
  unfold freeQ
  rw [(h.code hn).2, Bool.and_eq_true, Bool.and_eq_true, decide_eq_true_eq, decide_eq_true_eq]
theorem freeS_lex {n : Nat} (hn : n ≤ 8) (e : List S70) (lo hi : Int) : LexS (freeS n e lo hi) := sortLL_lex _ (codes_nodup (Nat.pow_le_pow_right (n := 2) (by decide) (show n ≤ 8 from hn)) _)
theorem freeS_len {n : Nat} (hn : n ≤ 8) (e : List S70) (lo hi : Int) : (freeS n e lo hi).length ≤ 256 := by
  unfold freeS
  rw [sortLL_len]
  exact Nat.le_trans (codesL_len _ _) (Nat.pow_le_pow_right (n := 2) (by decide) (show n ≤ 8 from hn))
theorem freeS_wide {n : Nat} (hn : n ≤ 8) (e : List S70) (lo : Int) {hi hi' : Int} (h : (n : Int) ≤ hi) (h' : (n : Int) ≤ hi') : freeS n e lo hi = freeS n e lo hi' := by
  refine lex_unique _ _ (freeS_lex hn e lo hi) (freeS_lex hn e lo hi') fun s => ?_
  rw [freeS_mem hn, freeS_mem hn]
  refine and_congr_right fun hs => and_congr_left fun _ => and_congr_right fun _ => ?_
  have := hs.len
  omega
section
variable (n : Nat) (hn : n ≤ 8) (e : List S70) (he : e.length ≤ 1048576) (hg : okG (n : Int) e = true) (lo hi : Int)
include hn he hg
theorem freeP_eq (b : Int) (hb : 0 ≤ b ∧ b < 256) : freeP e lo hi b = freeQ e lo hi b := by
  have _hu := he
  have h1 := okG_all hg
  unfold freeP freeQ freeI
  congr 2
  refine any_congr e _ _ fun s hs => ?_
  have h2 := h1.2.2 s hs
  unfold bothB
  rw [bag_has_at (by omega), bag_has_at (by omega), Option.getD_some, Option.getD_some]
  have hm : ∀ x : Int, 0 ≤ x → x < 8 → hasI b x = decide (x ∈ bagL b) := fun x h0 h8 => by
    rw [Bool.eq_iff_iff, decide_eq_true_eq, selI_mem]
    exact ⟨fun h => ⟨by omega, h⟩, fun h => h.2⟩
  rw [hm _ (by omega) (by omega), hm _ (by omega) (by omega)]
theorem free_ev : impl_Graph_free.f (n : Int) e lo hi = some (freeS n e lo hi) := by
  have h1 := okG_all hg
  have hpow : 2 ^ n ≤ 256 := Nat.pow_le_pow_right (n := 2) (by decide) (show n ≤ 8 from hn)
  unfold impl_Graph_free.f freeS
  rw [if_pos ⟨by omega, by
    unfold edgesOk
    rw [List.all_eq_true]
    intro s hs
    have := h1.2.2 s hs
    rw [decide_eq_true (show 0 ≤ s.f0 by omega), decide_eq_true (show 0 ≤ s.f1 by omega)]
    rfl⟩, Int.toNat_natCast]
  unfold codesL
  rw [selI_congr (freeP e lo hi) (freeQ e lo hi) (2 ^ n) 0 fun z h0 h2 => freeP_eq n hn e he hg lo hi z ⟨h0, by omega⟩]
theorem l3_codes (d : Nat) : ∀ m : Nat, 2 ^ n - m = d → m ≤ 2 ^ n → Ev (fun k => spec_l3Sets.l0 k lo hi (codesL (freeQ e lo hi) m) (m : Int) (n : Int) e) (freeS n e lo hi) := by
  have hpow : 2 ^ n ≤ 256 := Nat.pow_le_pow_right (n := 2) (by decide) (show n ≤ 8 from hn)
  have h1 := okG_all hg
  have hu : ∀ s ∈ e, s.f0 < s.f1 := fun s hs => (h1.2.2 s hs).2.1
  have hw : wrap64 ((n : Int) - 1) = (n : Int) - 1 := wrap_nat (by omega) (by omega)
  have hsh : shl .i64 1 (n : Int) = ((2 ^ n : Nat) : Int) := by
    have : ∀ i : Fin 9, shl .i64 1 i = ((2 ^ i.val : Nat) : Int) := by decide +kernel
    exact this ⟨n, by omega⟩
  induction d with
  | zero =>
    intro m h0 h1
    have hm : m = 2 ^ n := by omega
    subst hm
    refine Ev.step (fun k => by rw [spec_l3Sets.l0]) ?_
    refine Ev.pos (by omega) ?_
    rw [hsh]
    refine Ev.neg (by omega) ?_
    refine Ev.bind (l2Sorted_nodup _ (by have := codesL_len (freeQ e lo hi) (2 ^ n); omega) (fun s hs => by
      have := (((codes_mem hn _ s).1 hs).1).len
      omega) (codes_nodup hpow _)) (Ev.now _)
  | succ d ih =>
    intro m h0 h1
    have hb : 0 ≤ (m : Int) ∧ (m : Int) < ((2 ^ n : Nat) : Int) := by omega
    have hset := bagL_set hn hb
    have hlen := hset.len
    have h5 := ih (m + 1) (by omega) (by omega)
    rw [codesL_succ, ← wrap_up (show m < 2 ^ n by omega) (by omega)] at h5
    have hcl := codesL_len (freeQ e lo hi) m
    have hf := l3Free_ev (n : Int) e (bagL (m : Int)) he (by omega)
    rw [freeN_freeI e _ _ hu, hw, hset.ris, Bool.true_and] at hf
    refine Ev.step (fun k => by rw [spec_l3Sets.l0]) ?_
    refine Ev.pos (by omega) ?_
    rw [hsh]
    refine Ev.pos hb.2 ?_
    refine Ev.bind (bits_ev n (m : Int) hn hb) ?_
    refine Ev.bindo (in_at _ _ _) ?_
    cases c1 : (decide (lo ≤ ((bagL (m : Int)).length : Int)) && decide (((bagL (m : Int)).length : Int) ≤ hi)) with
    | true =>
      refine Ev.pos rfl ?_
      refine Ev.bind hf ?_
      cases c2 : freeI e (bagL (m : Int)) with
      | true =>
        rw [if_pos (by unfold freeQ; rw [c1, c2]; rfl)] at h5
        refine Ev.pos rfl ?_
        refine Ev.pos (by omega) ?_
        exact h5
      | false =>
        rw [if_neg (by unfold freeQ; rw [c2, Bool.and_false]; decide), List.append_nil] at h5
        refine Ev.neg (by decide) ?_
        exact h5
    | false =>
      rw [if_neg (by unfold freeQ; rw [c1, Bool.false_and]; decide), List.append_nil] at h5
      refine Ev.neg (by decide) ?_
      exact h5
theorem l3Sets_ev : Ev (fun k => spec_l3Sets.f k (n : Int) e lo hi) (freeS n e lo hi) := by
  have h := l3_codes n hn e he hg lo hi (2 ^ n) 0 (Nat.sub_zero _) (Nat.zero_le _)
  unfold spec_l3Sets.f
  rw [show codesL (freeQ e lo hi) 0 = [] from rfl] at h
  simpa only [Int.natCast_zero] using h
end
end Go.Proofs.Ytadjbmcfgjmhkaa.P
namespace Go.Proofs.Ytadjbmcfgjmhkaa.P
open Go.RowKit Go.Proofs.YtadjbmcfgjmhkaaW.PrintWords Go.Proofs.YtadjbmcfgjmhkaaW.PrintLast Go.Proofs.YtadjbmcfgjmhkaaW.PrintMore
set_option linter.unusedVariables false
set_option linter.unusedSimpArgs false

theorem most_val (x y : Int) : spec_l1Most.f x y = some (mx x y) := by
  unfold spec_l1Most.f mx
  by_cases h : x > y
  · rw [if_pos h, if_neg (by omega)]
  · by_cases h2 : x < y
    · rw [if_neg h, if_pos h2]
    · rw [if_neg h, if_neg h2, show x = y by omega]
def mostL (t : List (List Int)) (b : Int) : Int := t.foldl (fun b s => mx b (s.length : Int)) b
section
variable (T : List (List Int)) (hT : T.length ≤ 1048576)
include hT
theorem indS_loop (d : Nat) : ∀ (m : Nat) (b : Int), T.length - m = d → m ≤ T.length → Ev (fun k => spec_IndependenceNumber.l0 k b T (m : Int)) (mostL (T.drop m) b, true) := by
  induction d with
  | zero =>
    intro m b h0 h1
    rw [List.drop_eq_nil_of_le (by omega)]
    refine Ev.step (fun k => by rw [spec_IndependenceNumber.l0]) ?_
    exact Ev.neg (by omega) (Ev.now _)
  | succ d ih =>
    intro m b h0 h1
    have hm : m < T.length := by omega
    have h2 := ih (m + 1) (mx b (T[m].length : Int)) (by omega) (by omega)
    rw [← wrap_up hm (by omega)] at h2
    rw [List.drop_eq_getElem_cons hm]
    refine Ev.step (fun k => by rw [spec_IndependenceNumber.l0]) ?_
    refine Ev.pos (by omega) ?_
    refine Ev.pos (by omega) ?_
    rw [rdL_at T m hm]
    exact Ev.bindo (most_val _ _) h2
theorem indI_loop (d : Nat) : ∀ (m : Nat) (b : Int), T.length - m = d → m ≤ T.length → Ev (fun k => impl_IndependenceNumber.l0 k b T (T.length : Int) (m : Int)) (mostL (T.drop m) b, true) := by
  induction d with
  | zero =>
    intro m b h0 h1
    rw [List.drop_eq_nil_of_le (by omega)]
    refine Ev.step (fun k => by rw [impl_IndependenceNumber.l0]) ?_
    exact Ev.neg (by omega) (Ev.now _)
  | succ d ih =>
    intro m b h0 h1
    have hm : m < T.length := by omega
    have h2 := ih (m + 1) (mx b (T[m].length : Int)) (by omega) (by omega)
    rw [← wrap_up hm (by omega)] at h2
    rw [List.drop_eq_getElem_cons hm]
    refine Ev.step (fun k => by rw [impl_IndependenceNumber.l0]) ?_
    refine Ev.pos (by omega) ?_
    refine Ev.pos (by omega) ?_
    refine Ev.pos (by omega) ?_
    rw [rdL_at T m hm]
    exact h2
end
theorem Both_FnExactIndependenceNumber (a0_0 : Int) (l0_1 : List S70) (w0_0 : (Lit.int .i64 a0_0).wf = true) (w0_1 : FitP l0_1) (hn0 : l0_1.length ≤ 1048576) : ∃ (q0 : Int) (q1 : Bool), Ev (fun k => spec_IndependenceNumber.f k a0_0 l0_1) (q0, q1) ∧ Ev (fun k => impl_IndependenceNumber.f k a0_0 l0_1) (q0, q1) := by
  cases hg : okG a0_0 l0_1 with
  | true =>
    have h1 := okG_all hg
    obtain ⟨n, rfl⟩ := Int.eq_ofNat_of_zero_le h1.1
    have hn : n ≤ 8 := by omega
    have hl := freeS_len hn l0_1 0 (n : Int)
    refine ⟨mostL (freeS n l0_1 0 (n : Int)) 0, true, ?_, ?_⟩
    · unfold spec_IndependenceNumber.f
      refine Ev.bind (l2Good_ev _ _ hn0) ?_
      refine Ev.pos hg ?_
      refine Ev.bind (l3Sets_ev n hn l0_1 hn0 hg 0 (n : Int)) ?_
      simpa only [List.drop_zero, Int.natCast_zero] using indS_loop (freeS n l0_1 0 (n : Int)) (by omega) _ 0 0 rfl (Nat.zero_le _)
    · unfold impl_IndependenceNumber.f
      refine Ev.bind (impl_IsGraph_ev _ _ hn0) ?_
      refine Ev.pos hg ?_
      refine Ev.bindo (free_ev n hn l0_1 hn0 hg 0 8) ?_
      rw [freeS_wide hn l0_1 0 (show (n : Int) ≤ 8 by omega) (Int.le_refl (n : Int))]
      simpa only [List.drop_zero, Int.natCast_zero] using indI_loop (freeS n l0_1 0 (n : Int)) (by omega) _ 0 0 rfl (Nat.zero_le _)
  | false =>
    refine ⟨0, false, ?_, ?_⟩
    · unfold spec_IndependenceNumber.f
      refine Ev.bind (l2Good_ev _ _ hn0) ?_
      exact Ev.neg (by rw [hg]; decide) (Ev.now _)
    · unfold impl_IndependenceNumber.f
      refine Ev.bind (impl_IsGraph_ev _ _ hn0) ?_
      exact Ev.neg (by rw [hg]; decide) (Ev.now _)
end Go.Proofs.Ytadjbmcfgjmhkaa.P
namespace Go.Proofs.Ytadjbmcfgjmhkaa.P
open Go.RowKit Go.Proofs.YtadjbmcfgjmhkaaW.PrintWords Go.Proofs.YtadjbmcfgjmhkaaW.PrintLast Go.Proofs.YtadjbmcfgjmhkaaW.PrintMore
set_option linter.unusedVariables false
set_option maxHeartbeats 1000000 in
theorem Law_FnExactIndependenceNumber (a0_0 : Int) (A0_1 : Option Addr) (ca0_1 : Nat) (l0_1 : List (S70)) (w : World) (hr0_1 : Kd.C k70 w A0_1 l0_1.length l0_1) (hc0_1 : l0_1.length ≤ ca0_1) (w0_0 : (Lit.int .i64 a0_0).wf = true) (w0_1 : FitP l0_1) :
    Calls Try.prog 3 #[.agg #[.int .i64 a0_0, .slice A0_1 l0_1.length ca0_1]] w fun e w' => e = .returned (.bool true) ∧ Below w.heap.size w w' := by
  obtain ⟨t0, h0, m0⟩ := sz_graph a0_0 l0_1 w0_1.1
  by_cases c0 : t0 < 0
  · exact laws_FnExactIndependenceNumber.exit0 a0_0 A0_1 ca0_1 l0_1 t0 w hr0_1 hc0_1 c0 h0
  have hn0 := m0.resolve_left c0
  obtain ⟨q0, q1, es, ei⟩ := Both_FnExactIndependenceNumber a0_0 l0_1 w0_0 w0_1 hn0
  obtain ⟨k1, h1⟩ := Ev.rounds (toGraph_ev a0_0 l0_1 hn0)
  obtain ⟨k2, h2⟩ := Ev.rounds (es)
  obtain ⟨k3, h3⟩ := Ev.rounds (ei)
  obtain ⟨k4, h4⟩ := Ev.rounds (eqGraph_ev a0_0 l0_1 hn0)
  exact laws_FnExactIndependenceNumber.walk a0_0 A0_1 ca0_1 l0_1 k1 k2 k3 k4 t0 q0 q1 w hr0_1 hc0_1 c0 h0 h1 h2 h3 h4 
end Go.Proofs.Ytadjbmcfgjmhkaa.P
