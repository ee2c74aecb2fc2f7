/- spec's l2Sorted: states in order, each once. -/
import Derived.Test.YtadjbmcfgjmhkaaGreatStuckSetsG20
namespace Go.Proofs.YtadjbmcfgjmhkaaGreat.P
open Go.RowKit YtadjbmcfgjmhkaaGreatW.PrintWords Go.Proofs.YtadjbmcfgjmhkaaGreatW.PrintLast Go.Proofs.YtadjbmcfgjmhkaaGreatW.PrintMore
set_option linter.unusedVariables false
set_option linter.unusedSimpArgs false
theorem hJ (l : List Int) (h : l.length ≤ 1048576) : b3 l = some l := by
 unfold b3
 rw [Option.bind_some, List.length_nil, if_pos (by omega), List.nil_append]
theorem my (x y : List Int) (hx : x.length ≤ 1048576) (hxy : x.length = y.length) (d : Nat) : ∀ (m : Nat), x.length - m = d → m ≤ x.length → Ev (fun k => dp k x y (m : Int)) (decide (x.drop m = y.drop m)) := by
 induction d with
 | zero =>
  intro m h0 h1
  refine Ev.step (fun k => by rw [dp]) (Ev.neg (by omega) ?_)
  rw [List.drop_eq_nil_of_le (by omega), List.drop_eq_nil_of_le (by omega), af rfl]
  exact Ev.now _
 | succ d ih =>
  intro m h0 h1
  have hm : m < x.length := by omega
  have hy : m < y.length := by omega
  refine Ev.step (fun k => by rw [dp]) (Ev.pos (by omega) (Ev.pos (by omega) (Ev.pos (by omega) ?_)))
  rw [ck x m hm, ck y m hy, List.drop_eq_getElem_cons hm, List.drop_eq_getElem_cons hy]
  by_cases c : x[m] = y[m]
  · have := ih (m + 1) (by omega) (by omega)
    rw [show decide (x[m] :: x.drop (m + 1) = y[m] :: y.drop (m + 1)) = decide (x.drop (m + 1) = y.drop (m + 1)) from by rw [decide_eq_decide, List.cons.injEq]; exact ⟨fun h => h.2, fun h => ⟨c, h⟩⟩, bk hm (by omega)]
    exact Ev.pos c this
  · rw [av (fun h => c (by injection h))]
    exact Ev.neg c (Ev.now _)
theorem jw (x y : List Int) (hx : x.length ≤ 1048576) : Ev (fun k => d6 k x y) (decide (x = y)) := by
 unfold d6
 by_cases c : x.length = y.length
 · have := my x y hx c x.length 0 (by omega) (Nat.zero_le _)
   rw [List.drop_zero, List.drop_zero] at this
   exact Ev.pos (by omega) this
 · rw [av (fun h => c (by rw [h]))]
   exact Ev.neg (by omega) (Ev.now _)
theorem jR {o : List (List Int)} (h : LexS o) (s : List Int) (p : Nat) (h1 : ∀ x ∈ o.drop p, aE s x = true) (h2 : ∀ x ∈ o.take p, aE x s = true) :
   LexS (o.take p ++ [s] ++ o.drop p) ∧ ∀ x, x ∈ o.take p ++ [s] ++ o.drop p ↔ x ∈ o ∨ x = s := by
 have hm : ∀ x, x ∈ o ↔ x ∈ o.take p ∨ x ∈ o.drop p := fun x => by rw [← List.mem_append, List.take_append_drop]
 constructor
 · unfold LexS
   rw [List.append_assoc, List.singleton_append, List.pairwise_append, List.pairwise_cons]
   refine ⟨h.sublist (List.take_sublist ..), ⟨h1, h.sublist (List.drop_sublist ..)⟩, fun a ha b hb => ?_⟩
   rcases List.mem_cons.1 hb with rfl | hb
   · exact h2 a ha
   · exact fC _ _ _ (h2 a ha) (h1 b hb)
 · intro x
   rw [hm x]
   simp only [List.mem_append, List.mem_singleton]
   constructor
   · rintro ((h | h) | h)
     · exact .inl (.inl h)
     · exact .inr h
     · exact .inl (.inr h)
   · rintro ((h | h) | h)
     · exact .inl (.inl h)
     · exact .inr h
     · exact .inl (.inr h)
section
variable (ls : List (List Int)) (hls : ls.length ≤ 1048576) (hb : ∀ s ∈ ls, s.length ≤ 1048576)
include hls hb
theorem l4 (i : Nat) (hi : i < ls.length) (o : List (List Int)) (ho : LexS o) (hol : o.length ≤ i) (hob : ∀ x ∈ o, x.length ≤ 1048576) : ∀ p : Nat, p ≤ o.length → (∀ x ∈ o.drop p, aE ls[i] x = true) →
  ∃ R, LexS R ∧ R.length ≤ o.length + 1 ∧ (∀ x, x ∈ R ↔ x ∈ o ∨ x = ls[i]) ∧ ∀ F, Ev (fun k => bl k ls R (wrap64 ((i : Int) + 1))) F → Ev (fun k => cx k ls o (i : Int) (p : Int)) F := by
 have hs := hb ls[i] (List.getElem_mem hi)
 intro p
 induction p with
 | zero =>
  intro hp hd
  obtain ⟨g1, g2⟩ := jR ho ls[i] 0 hd (fun x hx => by simp at hx)
  refine ⟨_, g1, by simp, g2, fun F hF => ?_⟩
  refine Ev.step (fun k => by rw [cx]) ?_
  refine Ev.neg (by omega) ?_
  refine Ev.step (fun k => by rw [cY]) ?_
  refine Ev.pos rfl ?_
  refine Ev.bindo rfl ?_
  refine Ev.pos (by omega) ?_
  refine Ev.pos (by omega) ?_
  refine Ev.bindo rfl ?_
  refine Ev.pos (by simp) ?_
  refine Ev.bindo rfl ?_
  refine Ev.pos (by omega) ?_
  refine Ev.pos (by omega) ?_
  rw [bE ls i hi]
  refine Ev.bindo (hJ _ hs) ?_
  refine Ev.pos (by simp) ?_
  refine Ev.bindo rfl ?_
  refine Ev.bindo rfl ?_
  refine Ev.pos (by simp; omega) ?_
  exact hF
 | succ p ih =>
  intro hp hd
  have hpl : p < o.length := by omega
  have hw : wrap64 (((p + 1 : Nat) : Int) - 1) = (p : Int) := by unfold wrap64; omega
  cases c : aE ls[i] o[p] with
  | true =>
   obtain ⟨R, r1, r2, r3, r4⟩ := ih (by omega) (fun x hx => by
     rw [List.drop_eq_getElem_cons hpl] at hx
     rcases List.mem_cons.1 hx with rfl | hx
     · exact c
     · exact hd x hx)
   refine ⟨R, r1, r2, r3, fun F hF => ?_⟩
   refine Ev.step (fun k => by rw [cx]) ?_
   refine Ev.pos (by omega) ?_
   refine Ev.pos (by omega) ?_
   refine Ev.pos (by omega) ?_
   rw [hw]
   refine Ev.pos (by omega) ?_
   refine Ev.pos (by omega) ?_
   rw [bE ls i hi, bE o p hpl]
   refine Ev.bind (ie _ _ hs (hob _ (List.getElem_mem hpl))) ?_
   refine Ev.pos c ?_
   exact r4 F hF
  | false =>
   by_cases e : o[p] = ls[i]
   · refine ⟨o, ho, by omega, fun x => ⟨.inl, fun h => h.elim id fun h => by rw [h, ← e]; exact List.getElem_mem hpl⟩, fun F hF => ?_⟩
     refine Ev.step (fun k => by rw [cx]) ?_
     refine Ev.pos (by omega) ?_
     refine Ev.pos (by omega) ?_
     refine Ev.pos (by omega) ?_
     rw [hw]
     refine Ev.pos (by omega) ?_
     refine Ev.pos (by omega) ?_
     rw [bE ls i hi, bE o p hpl]
     refine Ev.bind (ie _ _ hs (hob _ (List.getElem_mem hpl))) ?_
     refine Ev.neg (by rw [c]; decide) ?_
     refine Ev.step (fun k => by rw [cY]) ?_
     refine Ev.neg (by omega) ?_
     rw [hw]
     refine Ev.pos (by omega) ?_
     refine Ev.pos (by omega) ?_
     refine Ev.pos (by omega) ?_
     refine Ev.pos (by omega) ?_
     rw [bE ls i hi, bE o p hpl]
     refine Ev.bind (jw _ _ (hob _ (List.getElem_mem hpl))) ?_
     refine Ev.pos (af e) ?_
     exact hF
   · have hlt : aE o[p] ls[i] = true := by
       cases c2 : aE o[p] ls[i] with
       | true => rfl
       | false => exact absurd (gq _ _ c2 c) e
     obtain ⟨g1, g2⟩ := jR ho ls[i] (p + 1) hd (fun x hx => by
       obtain ⟨q, hq, rfl⟩ := List.getElem_of_mem hx
       rw [List.length_take] at hq
       rw [List.getElem_take]
       by_cases hqp : q = p
       · subst hqp; exact hlt
       · exact fC _ _ _ (List.pairwise_iff_getElem.1 ho q p (by omega) hpl (by omega)) hlt)
     refine ⟨_, g1, by simp [List.length_take, List.length_drop]; omega, g2, fun F hF => ?_⟩
     refine Ev.step (fun k => by rw [cx]) ?_
     refine Ev.pos (by omega) ?_
     refine Ev.pos (by omega) ?_
     refine Ev.pos (by omega) ?_
     rw [hw]
     refine Ev.pos (by omega) ?_
     refine Ev.pos (by omega) ?_
     rw [bE ls i hi, bE o p hpl]
     refine Ev.bind (ie _ _ hs (hob _ (List.getElem_mem hpl))) ?_
     refine Ev.neg (by rw [c]; decide) ?_
     refine Ev.step (fun k => by rw [cY]) ?_
     refine Ev.neg (by omega) ?_
     rw [hw]
     refine Ev.pos (by omega) ?_
     refine Ev.pos (by omega) ?_
     refine Ev.pos (by omega) ?_
     refine Ev.pos (by omega) ?_
     rw [bE ls i hi, bE o p hpl]
     refine Ev.bind (jw _ _ (hob _ (List.getElem_mem hpl))) ?_
     refine Ev.neg (by rw [av e]; decide) ?_
     refine Ev.bindo rfl ?_
     refine Ev.pos (by omega) ?_
     refine Ev.pos (by omega) ?_
     refine Ev.bindo rfl ?_
     rw [Int.toNat_natCast]
     refine Ev.pos (by simp [List.length_take]; omega) ?_
     refine Ev.bindo rfl ?_
     refine Ev.bindo (hJ _ hs) ?_
     refine Ev.pos (by simp [List.length_take]; omega) ?_
     refine Ev.bindo rfl ?_
     refine Ev.bindo rfl ?_
     refine Ev.pos (by simp [List.length_take, List.length_drop]; omega) ?_
     exact hF
theorem lZ (d : Nat) : ∀ (m : Nat) (o : List (List Int)), ls.length - m = d → m ≤ ls.length → LexS o → o.length ≤ m → (∀ x, x ∈ o ↔ x ∈ ls.take m) →
  ∃ R, LexS R ∧ R.length ≤ ls.length ∧ (∀ x, x ∈ R ↔ x ∈ ls) ∧ Ev (fun k => bl k ls o (m : Int)) R := by
 induction d with
 | zero =>
  intro m o h0 h1 h2 h3 h4
  refine ⟨o, h2, by omega, fun x => by rw [h4 x, List.take_of_length_le (by omega)], ?_⟩
  refine Ev.step (fun k => by rw [bl]) ?_
  exact Ev.neg (by omega) (Ev.now _)
 | succ d ih =>
  intro m o h0 h1 h2 h3 h4
  have hm : m < ls.length := by omega
  obtain ⟨R, r1, r2, r3, r4⟩ := l4 ls hls hb m hm o h2 h3 (fun x hx => hb x (List.mem_of_mem_take ((h4 x).1 hx))) o.length (aw _) (fun x hx => by rw [List.drop_length] at hx; simp at hx)
  obtain ⟨R', q1, q2, q3, q4⟩ := ih (m + 1) R (by omega) (by omega) r1 (by omega) (fun x => by
   rw [r3 x, h4 x, List.take_succ_eq_append_getElem hm, List.mem_append, List.mem_singleton])
  rw [← bk hm (by omega)] at q4
  refine ⟨R', q1, q2, q3, ?_⟩
  refine Ev.step (fun k => by rw [bl]) ?_
  refine Ev.pos (by omega) ?_
  exact r4 R' q4
end
theorem nV (ls : List (List Int)) (hls : ls.length ≤ 1048576) (hb : ∀ s ∈ ls, s.length ≤ 1048576) : ∃ R, LexS R ∧ R.length ≤ ls.length ∧ (∀ x, x ∈ R ↔ x ∈ ls) ∧ Ev (fun k => dK k ls) R := by
 obtain ⟨R, r1, r2, r3, r4⟩ := lZ ls hls hb ls.length 0 [] (by omega) (Nat.zero_le _) List.Pairwise.nil (aw _) (fun x => by simp)
 refine ⟨R, r1, r2, r3, ?_⟩
 unfold dK
 simpa only [Int.natCast_zero] using r4
theorem nU (ls : List (List Int)) (hls : ls.length ≤ 1048576) (hb : ∀ s ∈ ls, s.length ≤ 1048576) (hn : ls.Nodup) : Ev (fun k => dK k ls) (bq ls) := by
 obtain ⟨R, r1, r2, r3, r4⟩ := nV ls hls hb
 rw [← jQ R (bq ls) r1 (gR ls hn) (fun s => by rw [r3, fK])]
 exact r4
abbrev bG (b : Int) : List Int := aG (aH b) 8 0
theorem oX : ∀ b : Fin 256, ∀ y : Fin 8, (Go.bits .and .i64 (ch .i64 b y) 1 == 1) = aH b y := by decide +kernel
theorem kc {b y : Int} (hb : 0 ≤ b ∧ b < 256) (hy : 0 ≤ y ∧ y < 8) : (Go.bits .and .i64 (ch .i64 b y) 1 = 1) ↔ aH b y = true := by
 obtain ⟨i, rfl⟩ := cT (n := 256) hb.1 hb.2
 obtain ⟨j, rfl⟩ := cT (n := 8) hy.1 hy.2
 have := oX i j
 rw [← this, beq_iff_eq]
theorem oO : ∀ n : Fin 9, ∀ b : Fin 256, decide (b.val < 2 ^ n.val) = (List.range 8).all (fun y => decide (y < n.val) || !aH b y) := by decide +kernel
theorem iw {n : Nat} {b : Int} (hn : n ≤ 8) (hb : 0 ≤ b ∧ b < 256) : b < ((2 ^ n : Nat) : Int) ↔ ∀ y : Int, (n : Int) ≤ y → y < 8 → aH b y = false := by
 obtain ⟨i, rfl⟩ := cT (n := 256) hb.1 hb.2
 have h := oO ⟨n, by omega⟩ i
 have e1 : ((i.val : Int) < ((2 ^ n : Nat) : Int)) ↔ decide (i.val < 2 ^ n) = true := by rw [decide_eq_true_eq]; omega
 rw [e1, h, List.all_eq_true]
 constructor
 · intro h y h0 h1
   have := h y.toNat (by rw [List.mem_range]; omega)
   simp only [Bool.or_eq_true, decide_eq_true_eq, Bool.not_eq_true'] at this
   rw [show ((y.toNat : Nat) : Int) = y by omega] at this
   exact this.resolve_left (by omega)
 · intro h y hy
   rw [List.mem_range] at hy
   by_cases c : y < n
   · simp [c]
   · have := h (y : Int) (by omega) (by omega)
     simp [this]
theorem qv : ∀ b : Fin 256, aK 0 (aG (aH b) 8 0) = b := by decide +kernel
theorem iL {b : Int} (hb : 0 ≤ b ∧ b < 256) : aK 0 (bG b) = b := by
 obtain ⟨i, rfl⟩ := cT (n := 256) hb.1 hb.2
 exact qv i
theorem qj (n : Int) (b : Int) (hn : n ≤ 8) (hb : 0 ≤ b ∧ b < 256) (d : Nat) : ∀ (y : Int) (acc : List Int), (n - y).toNat = d → 0 ≤ y → acc.length + d ≤ 1000 → Ev (fun k => b0 k n b acc y) (acc ++ aG (aH b) d y) := by
 induction d with
 | zero =>
  intro y acc h0 h1 h2
  refine Ev.step (fun k => by rw [b0]) (Ev.neg (by omega) ?_)
  simp only [aG, List.append_nil]
  exact Ev.now _
 | succ d ih =>
  intro y acc h0 h1 h2
  refine Ev.step (fun k => by rw [b0]) (Ev.pos (by omega) (Ev.pos (by omega) ?_))
  have hw : wrap64 (y + 1) = y + 1 := ct (by omega) (by omega)
  rw [hw, aG]
  by_cases c : aH b y = true
  · rw [if_pos c, ← List.append_assoc]
    refine Ev.pos ((kc hb ⟨h1, by omega⟩).2 c) (Ev.pos (by omega) ?_)
    exact ih (y + 1) _ (by omega) (by omega) (by rw [List.length_append, List.length_singleton]; omega)
  · rw [if_neg c, List.nil_append]
    exact Ev.neg (fun h => c ((kc hb ⟨h1, by omega⟩).1 h)) (ih (y + 1) acc (by omega) (by omega) (by omega))
theorem qk (n : Nat) (b : Int) (hn : n ≤ 8) (hb : 0 ≤ b ∧ b < ((2 ^ n : Nat) : Int)) : Ev (fun k => d5 k (n : Int) b) (bG b) := by
 have hpow : 2 ^ n ≤ 256 := Nat.pow_le_pow_right (n := 2) (by decide) (show n ≤ 8 from hn)
 have h := qj (n : Int) b (by omega) ⟨hb.1, by omega⟩ n 0 [] (by omega) (by omega) (by simp; omega)
 unfold d5
 have e : bG b = aG (aH b) n 0 := by
  unfold bG
  rw [show 8 = n + (8 - n) by omega, jv, ms _ (8 - n), List.append_nil]
  intro z h0 h1
  exact (iw hn ⟨hb.1, by omega⟩).1 hb.2 z (by omega) (by omega)
 rw [e]
 simpa only [List.nil_append] using h
def SetN (n : Nat) (s : List Int) : Prop := s.Pairwise (· < ·) ∧ ∀ x ∈ s, 0 ≤ x ∧ x < (n : Int)
theorem SetN.ris {n : Nat} {s : List Int} (h : SetN n s) : bA 0 ((n : Int) - 1) none s = true := mJ _ _ s none h.1 (fun x hx => by have := h.2 x hx; omega) (fun q e => by cases e)
theorem SetN.wide {n m : Nat} {s : List Int} (h : SetN n s) (hm : n ≤ m) : SetN m s := ⟨h.1, fun x hx => by have := h.2 x hx; omega⟩
theorem fN (f : Int → Bool) (d : Nat) : ∀ y, (aG f d y).Pairwise (· < ·) := by
 induction d with
 | zero => intro y; exact List.Pairwise.nil
 | succ d ih =>
  intro y
  simp only [aG]
  by_cases c : f y = true
  · rw [if_pos c, List.singleton_append, List.pairwise_cons]
    exact ⟨fun z hz => by have := ((cD f d (y + 1) z).1 hz).1; omega, ih (y + 1)⟩
  · rw [if_neg c, List.nil_append]
    exact ih (y + 1)
theorem kH {n : Nat} {b : Int} (hn : n ≤ 8) (hb : 0 ≤ b ∧ b < ((2 ^ n : Nat) : Int)) : SetN n (bG b) := by
 have hpow : 2 ^ n ≤ 256 := Nat.pow_le_pow_right (n := 2) (by decide) (show n ≤ 8 from hn)
 refine ⟨fN _ _ _, fun x hx => ?_⟩
 obtain ⟨h1, h2⟩ := (cD _ _ _ _).1 hx
 have h3 := (iw hn ⟨hb.1, by omega⟩).1 hb.2
 refine ⟨by omega, ?_⟩
 by_cases c : x < (n : Int)
 · exact c
 · have := h3 x (by omega) (by omega)
   rw [h2] at this
   exact absurd this (by decide)
theorem jG {l1 l2 : List Int} (h1 : l1.Pairwise (· < ·)) (h2 : l2.Pairwise (· < ·)) (h : ∀ x, x ∈ l1 ↔ x ∈ l2) : l1 = l2 := by
 induction l1 generalizing l2 with
 | nil =>
  cases l2 with
  | nil => rfl
  | cons b u => exact absurd ((h b).2 (List.mem_cons_self ..)) (by simp)
 | cons a t ih =>
  cases l2 with
  | nil => exact absurd ((h a).1 (List.mem_cons_self ..)) (by simp)
  | cons b u =>
   have p1 := List.pairwise_cons.1 h1
   have p2 := List.pairwise_cons.1 h2
   have hab : a = b := by
     rcases List.mem_cons.1 ((h a).1 (List.mem_cons_self ..)) with e | e
     · exact e
     · rcases List.mem_cons.1 ((h b).2 (List.mem_cons_self ..)) with e2 | e2
       · exact e2.symm
       · have := p1.1 b e2
         have := p2.1 a e
         omega
   subst hab
   rw [ih p1.2 p2.2 fun s => ?_]
   constructor
   · intro hs
     rcases List.mem_cons.1 ((h s).1 (List.mem_cons_of_mem _ hs)) with e | e
     · have := p1.1 s hs; omega
     · exact e
   · intro hs
     rcases List.mem_cons.1 ((h s).2 (List.mem_cons_of_mem _ hs)) with e | e
     · have := p2.1 s hs; omega
     · exact e
theorem qt {l : List Int} (h : bA 0 (((8 : Nat) : Int) - 1) none l = true) : bG (aK 0 l) = l := by
 have hp := mI _ _ l none h
 have hx : ∀ x ∈ l, 0 ≤ x ∧ x < 8 := fun x hx => by have := mK _ _ l none h x hx; omega
 have hb := (kI l 0 (by omega) hx).2
 refine jG (fN _ _ _) hp.1 fun x => ?_
 rw [cD]
 constructor
 · rintro ⟨h1, h2⟩
   rw [hb x (by omega) (by omega), iy (by omega) (by omega), Bool.false_or, decide_eq_true_eq] at h2
   exact h2
 · intro hx'
   have := hx x hx'
   refine ⟨by omega, ?_⟩
   rw [hb x (by omega) (by omega), iy (by omega) (by omega), Bool.false_or, decide_eq_true_eq]
   exact hx'
theorem SetN.code {n : Nat} {s : List Int} (hn : n ≤ 8) (h : SetN n s) : (0 ≤ aK 0 s ∧ aK 0 s < ((2 ^ n : Nat) : Int)) ∧ bG (aK 0 s) = s := by
 have h8 := (h.wide hn).ris
 have hb := kI s 0 (by omega) (fun x hx => by have := h.2 x hx; omega)
 refine ⟨⟨hb.1.1, (iw hn hb.1).2 fun y h0 h1 => ?_⟩, qt h8⟩
 rw [hb.2 y (by omega) h1, iy (by omega) h1, Bool.false_or, decide_eq_false_iff_not]
 intro hy
 have := h.2 y hy
 omega
theorem kx {n : Nat} (hn : n ≤ 8) (p : Int → Bool) (s : List Int) : s ∈ bD p (2 ^ n) ↔ SetN n s ∧ p (aK 0 s) = true := by
 have hpow : 2 ^ n ≤ 256 := Nat.pow_le_pow_right (n := 2) (by decide) (show n ≤ 8 from hn)
 unfold bD
 rw [List.mem_map]
 constructor
 · rintro ⟨b, hb, rfl⟩
   obtain ⟨h1, h2⟩ := (cD _ _ _ _).1 hb
   have h3 : 0 ≤ b ∧ b < ((2 ^ n : Nat) : Int) := ⟨h1.1, by omega⟩
   refine ⟨kH hn h3, ?_⟩
   rw [iL ⟨h3.1, by omega⟩]
   exact h2
 · rintro ⟨h1, h2⟩
   have h3 := h1.code hn
   exact ⟨aK 0 s, (cD _ _ _ _).2 ⟨by have := h3.1; omega, h2⟩, h3.2⟩
theorem kw {n : Nat} (hn : n ≤ 256) (p : Int → Bool) : (bD p n).Nodup := by
 unfold bD
 refine List.Pairwise.map _ ?_ (List.Pairwise.and_mem.1 (fN p n 0))
 rintro a b ⟨ha, hb, hab⟩ e
 have h1 := ((cD _ _ _ _).1 ha).1
 have h2 := ((cD _ _ _ _).1 hb).1
 have := congrArg (aK 0) e
 rw [iL ⟨by omega, by omega⟩, iL ⟨by omega, by omega⟩] at this
 omega
theorem SetN.len {n : Nat} {s : List Int} (h : SetN n s) : s.length ≤ n := by
 have : ∀ (s : List Int) (a : Int), s.Pairwise (· < ·) → (∀ x ∈ s, a ≤ x ∧ x < (n : Int)) → (s.length : Int) ≤ (n : Int) - a ∨ s = [] := by
   intro s
   induction s with
   | nil => intro a _ _; exact .inr rfl
   | cons x t ih =>
    intro a h1 h2
    have p1 := List.pairwise_cons.1 h1
    have hx := h2 x (List.mem_cons_self ..)
    rcases ih (x + 1) p1.2 (fun y hy => ⟨by have := p1.1 y hy; omega, (h2 y (List.mem_cons_of_mem _ hy)).2⟩) with h3 | h3
    · exact .inl (by rw [List.length_cons]; omega)
    · subst h3
      exact .inl (by rw [List.length_singleton]; omega)
 rcases this s 0 h.1 h.2 with h3 | h3
 · omega
 · subst h3; exact Nat.zero_le _
def dE (e : List S69) (l : List Int) (r : Bool) : Nat → Nat → Bool
 | 0, _ => r
 | d + 1, i => if (l.take i).any (fun y => bM e y (l[i]?.getD 0)) = true then false else dE e l r d (i + 1)
theorem o7 (e : List S69) (l : List Int) (r : Bool) (d : Nat) : ∀ i, dE e l r d i = true ↔ r = true ∧ ∀ q, i ≤ q → q < i + d → ∀ y ∈ l.take q, ¬ bM e y (l[q]?.getD 0) = true := by
 induction d with
 | zero => intro i; simp only [dE]; exact ⟨fun h => ⟨h, fun q h1 h2 => by omega⟩, fun h => h.1⟩
 | succ d ih =>
  intro i
  simp only [dE]
  by_cases c : (l.take i).any (fun y => bM e y (l[i]?.getD 0)) = true
  · rw [if_pos c]
    refine ⟨fun h => by simp at h, fun h => ?_⟩
    obtain ⟨y, hy, hc⟩ := List.any_eq_true.1 c
    exact absurd hc (h.2 i (aw _) (by omega) y hy)
  · rw [if_neg c, ih]
    refine and_congr_right fun _ => ⟨fun h q h1 h2 y hy hc => ?_, fun h q h1 h2 => h q (by omega) (by omega)⟩
    by_cases hq : q = i
    · subst hq
      exact c (List.any_eq_true.2 ⟨y, hy, hc⟩)
    · exact h q (by omega) (by omega) y hy hc
section
variable (a : Int) (e : List S69) (l : List Int) (he : e.length ≤ 1048576) (hl : l.length ≤ 1048576)
include he hl
theorem o1 {R : Bool} (i : Nat) (hi : i < l.length) (d : Nat) : ∀ (j : Nat), i - j = d → j ≤ i → Ev (fun k => cX k l (wrap64 ((i : Int) + 1)) a e) R →
  Ev (fun k => dm k l (i : Int) (j : Int) a e) (if ((l.take i).drop j).any (fun y => bM e y (l[i]?.getD 0)) = true then false else R) := by
 induction d with
 | zero =>
  intro j h0 h1 h
  refine Ev.step (fun k => by rw [dm]) (Ev.neg (by omega) ?_)
  rw [List.drop_eq_nil_of_le (by rw [List.length_take]; omega), List.any_nil, if_neg (by decide)]
  exact h
 | succ d ih =>
  intro j h0 h1 h
  have hj : j < l.length := by omega
  refine Ev.step (fun k => by rw [dm]) (Ev.pos (by omega) (Ev.pos (by omega) (Ev.pos (by omega) (Ev.pos (by omega) (Ev.pos (by omega) ?_)))))
  rw [ck l j hj, ck l i hi]
  refine Ev.bind (jM a e l[j] l[i] he) ?_
  have hd : (l.take i).drop j = l[j] :: (l.take i).drop (j + 1) := by
    rw [List.drop_eq_getElem_cons (by rw [List.length_take]; omega), List.getElem_take]
  rw [hd, List.any_cons, List.getElem?_eq_getElem hi, Option.getD_some]
  by_cases c : bM e l[j] l[i] = true
  · rw [c, Bool.true_or, if_pos rfl]
    exact Ev.pos rfl (Ev.now _)
  · have c' : bM e l[j] l[i] = false := by simpa using c
    rw [c', Bool.false_or, bk hj (by omega)]
    have := ih (j + 1) (by omega) (by omega) h
    rw [List.getElem?_eq_getElem hi, Option.getD_some] at this
    exact Ev.neg (by decide) this
theorem o2 (d : Nat) : ∀ (i : Nat), l.length - i = d → i ≤ l.length → Ev (fun k => cX k l (i : Int) a e) (dE e l (bA 0 (wrap64 (a - 1)) none l) d i) := by
 induction d with
 | zero =>
  intro i h0 h1
  refine Ev.step (fun k => by rw [cX]) (Ev.neg (by omega) ?_)
  exact Ev.bind (nW a e l hl) (Ev.now _)
 | succ d ih =>
  intro i h0 h1
  have hi : i < l.length := by omega
  refine Ev.step (fun k => by rw [cX]) (Ev.pos (by omega) ?_)
  have h := ih (i + 1) (by omega) (by omega)
  rw [← bk hi (by omega)] at h
  have := o1 a e l he hl i hi i 0 (by omega) (by omega) h
  simpa only [List.drop_zero, dE, Int.natCast_zero] using this
end
theorem nT (a : Int) (e : List S69) (l : List Int) (he : e.length ≤ 1048576) (hl : l.length ≤ 1048576) : Ev (fun k => eP k a e l) (dE e l (bA 0 (wrap64 (a - 1)) none l) l.length 0) :=
 o2 a e l he hl l.length 0 (by omega) (Nat.zero_le _)
def ez (e : List S69) (l : List Int) : Bool := !(e.any fun s => decide (s.f0 ∈ l) && decide (s.f1 ∈ l))
theorem ix (e : List S69) (x y : Int) : bM e x y = true ↔ ∃ s ∈ e, (s.f0 = x ∧ s.f1 = y) ∨ (s.f0 = y ∧ s.f1 = x) := by
 unfold bM
 rw [List.any_eq_true]
 simp only [Bool.or_eq_true, Bool.and_eq_true, decide_eq_true_eq]
theorem o8 (e : List S69) (l : List Int) (r : Bool) (hu : ∀ s ∈ e, s.f0 < s.f1) : dE e l r l.length 0 = (r && ez e l) := by
 rw [Bool.eq_iff_iff, o7, Bool.and_eq_true]
 refine and_congr_right fun _ => ?_
 unfold ez
 rw [Bool.not_eq_true', List.any_eq_false]
 simp only [Bool.and_eq_true, decide_eq_true_eq]
 constructor
 · intro h s hs hc
   obtain ⟨p, hp, h0⟩ := List.getElem_of_mem hc.1
   obtain ⟨q, hq, h1⟩ := List.getElem_of_mem hc.2
   have hne := hu s hs
   have hmem : ∀ p q (hp : p < l.length) (hq : q < l.length), p < q → l[p] ∈ l.take q := by
     intro p q hp hq hpq
     rw [List.mem_take_iff_getElem]
     exact ⟨p, by omega, rfl⟩
   rcases Nat.lt_trichotomy p q with hpq | hpq | hpq
   · refine h q (by omega) (by omega) l[p] (hmem p q hp hq hpq) ?_
     rw [List.getElem?_eq_getElem hq, Option.getD_some, ix]
     exact ⟨s, hs, .inl ⟨h0.symm, h1.symm⟩⟩
   · subst hpq
     rw [h0] at h1
     omega
   · refine h p (by omega) (by omega) l[q] (hmem q p hq hp hpq) ?_
     rw [List.getElem?_eq_getElem hp, Option.getD_some, ix]
     exact ⟨s, hs, .inr ⟨h0.symm, h1.symm⟩⟩
 · intro h q _ h2 y hy hc
   have hq : q < l.length := by omega
   rw [List.getElem?_eq_getElem hq, Option.getD_some, ix] at hc
   obtain ⟨s, hs, hc⟩ := hc
   have hy' : y ∈ l := List.mem_of_mem_take hy
   have hq' : l[q] ∈ l := List.getElem_mem hq
   refine h s hs ?_
   rcases hc with ⟨h0, h1⟩ | ⟨h0, h1⟩
   · exact ⟨h0 ▸ hy', h1 ▸ hq'⟩
   · exact ⟨h0 ▸ hq', h1 ▸ hy'⟩
def cp (e : List S69) (lo hi b : Int) : Bool := (decide (lo ≤ ((bG b).length : Int)) && decide (((bG b).length : Int) ≤ hi)) && ez e (bG b)
def aN (n : Nat) (e : List S69) (lo hi : Int) : List (List Int) := bq (bD (cp e lo hi) (2 ^ n))
theorem o5 {n : Nat} (hn : n ≤ 8) (e : List S69) (lo hi : Int) (s : List Int) : s ∈ aN n e lo hi ↔ SetN n s ∧ (lo ≤ (s.length : Int) ∧ (s.length : Int) ≤ hi) ∧ ez e s = true := by
 unfold aN
 rw [fK, kx hn]
 refine and_congr_right fun h => ?_
 unfold cp
 rw [(h.code hn).2, Bool.and_eq_true, Bool.and_eq_true, decide_eq_true_eq, decide_eq_true_eq]
theorem kj {n : Nat} (hn : n ≤ 8) (e : List S69) (lo hi : Int) : LexS (aN n e lo hi) := gR _ (kw (Nat.pow_le_pow_right (n := 2) (by decide) (show n ≤ 8 from hn)) _)
theorem iB {n : Nat} (hn : n ≤ 8) (e : List S69) (lo hi : Int) : (aN n e lo hi).length ≤ 256 := by
 unfold aN
 rw [js]
 exact Nat.le_trans (fy _ _) (Nat.pow_le_pow_right (n := 2) (by decide) (show n ≤ 8 from hn))
section
variable (n : Nat) (hn : n ≤ 8) (e : List S69) (he : e.length ≤ 1048576) (hg : bL (n : Int) e = true) (lo hi : Int)
include hn he hg
theorem o6 (b : Int) (hb : 0 ≤ b ∧ b < 256) : dR e lo hi b = cp e lo hi b := by
 have _hu := he
 have h1 := ed hg
 unfold dR cp ez
 congr 2
 refine kL e _ _ fun s hs => ?_
 have h2 := h1.2.2 s hs
 unfold dG
 rw [gv (by omega), gv (by omega), Option.getD_some, Option.getD_some]
 have hm : ∀ x : Int, 0 ≤ x → x < 8 → aH b x = decide (x ∈ bG b) := fun x h0 h8 => by
  rw [Bool.eq_iff_iff, decide_eq_true_eq, cD]
  exact ⟨fun h => ⟨by omega, h⟩, fun h => h.2⟩
 rw [hm _ (by omega) (by omega), hm _ (by omega) (by omega)]
theorem o3 : fq (n : Int) e lo hi = some (aN n e lo hi) := by
 have h1 := ed hg
 have hpow : 2 ^ n ≤ 256 := Nat.pow_le_pow_right (n := 2) (by decide) (show n ≤ 8 from hn)
 unfold fq aN
 rw [if_pos ⟨by omega, by
  unfold fx
  rw [List.all_eq_true]
  intro s hs
  have := h1.2.2 s hs
  rw [af (show 0 ≤ s.f0 by omega), af (show 0 ≤ s.f1 by omega)]
  rfl⟩, Int.toNat_natCast]
 unfold bD
 rw [mw (dR e lo hi) (cp e lo hi) (2 ^ n) 0 fun z h0 h2 => o6 n hn e he hg lo hi z ⟨h0, by omega⟩]
theorem nQ (d : Nat) : ∀ m : Nat, 2 ^ n - m = d → m ≤ 2 ^ n → Ev (fun k => bR k lo hi (bD (cp e lo hi) m) (m : Int) (n : Int) e) (aN n e lo hi) := by
 have hpow : 2 ^ n ≤ 256 := Nat.pow_le_pow_right (n := 2) (by decide) (show n ≤ 8 from hn)
 have h1 := ed hg
 have hu : ∀ s ∈ e, s.f0 < s.f1 := fun s hs => (h1.2.2 s hs).2.1
 have hw : wrap64 ((n : Int) - 1) = (n : Int) - 1 := ct (by omega) (by omega)
 have hsh : ci .i64 1 (n : Int) = ((2 ^ n : Nat) : Int) := by
  have : ∀ i : Fin 9, ci .i64 1 i = ((2 ^ i.val : Nat) : Int) := by decide +kernel
  exact this ⟨n, by omega⟩
 induction d with
 | zero =>
  intro m h0 h1
  have hm : m = 2 ^ n := by omega
  subst hm
  refine Ev.step (fun k => by rw [bR]) ?_
  refine Ev.pos (by omega) ?_
  rw [hsh]
  refine Ev.neg (by omega) ?_
  refine Ev.bind (nU _ (by have := fy (cp e lo hi) (2 ^ n); omega) (fun s hs => by
   have := (((kx hn _ s).1 hs).1).len
   omega) (kw hpow _)) (Ev.now _)
 | succ d ih =>
  intro m h0 h1
  have hb : 0 ≤ (m : Int) ∧ (m : Int) < ((2 ^ n : Nat) : Int) := by omega
  have hset := kH hn hb
  have hlen := hset.len
  have h5 := ih (m + 1) (by omega) (by omega)
  rw [ky, ← bk (show m < 2 ^ n by omega) (by omega)] at h5
  have hcl := fy (cp e lo hi) m
  have hf := nT (n : Int) e (bG (m : Int)) he (by omega)
  rw [o8 e _ _ hu, hw, hset.ris, Bool.true_and] at hf
  refine Ev.step (fun k => by rw [bR]) ?_
  refine Ev.pos (by omega) ?_
  rw [hsh]
  refine Ev.pos hb.2 ?_
  refine Ev.bind (qk n (m : Int) hn hb) ?_
  refine Ev.bindo (ek _ _ _) ?_
  cases c1 : (decide (lo ≤ ((bG (m : Int)).length : Int)) && decide (((bG (m : Int)).length : Int) ≤ hi)) with
  | true =>
   refine Ev.pos rfl ?_
   refine Ev.bind hf ?_
   cases c2 : ez e (bG (m : Int)) with
   | true =>
    rw [if_pos (by unfold cp; rw [c1, c2]; rfl)] at h5
    refine Ev.pos rfl ?_
    refine Ev.pos (by omega) ?_
    exact h5
   | false =>
    rw [if_neg (by unfold cp; rw [c2, Bool.and_false]; decide), List.append_nil] at h5
    refine Ev.neg (by decide) ?_
    exact h5
  | false =>
   rw [if_neg (by unfold cp; rw [c1, Bool.false_and]; decide), List.append_nil] at h5
   refine Ev.neg (by decide) ?_
   exact h5
theorem nS : Ev (fun k => dW k (n : Int) e lo hi) (aN n e lo hi) := by
 have h := nQ n hn e he hg lo hi (2 ^ n) 0 (Nat.sub_zero _) (Nat.zero_le _)
 unfold dW
 rw [show bD (cp e lo hi) 0 = [] from rfl] at h
 simpa only [Int.natCast_zero] using h
end
theorem j4 (a : Int) (e : List S69) (k0 : Int) (he : e.length ≤ 1048576) : Ev (fun k => dY k a e k0) (bL a e && (decide (0 ≤ k0) && decide (k0 ≤ 8))) := by
 unfold dY
 refine Ev.bind (nZ a e he) ?_
 cases h : bL a e with
 | true => exact Ev.pos rfl (Ev.bindo (ek _ _ _) (by rw [Bool.true_and]; exact Ev.now _))
 | false => exact Ev.neg (by decide) (Ev.now _)
def f8 (a : Int) (e : List S69) (k0 : Int) : List (List Int) × Bool := if (bL a e && (decide (0 ≤ k0) && decide (k0 ≤ 8))) = true then (aN a.toNat e k0 k0, true) else ([], false)
theorem ol {a : Int} {e : List S69} {k0 : Int} (hg : bL a e = true) (c : (decide (0 ≤ k0) && decide (k0 ≤ 8)) = true) : f8 a e k0 = (aN a.toNat e k0 k0, true) := if_pos (by rw [hg, c]; rfl)
theorem j5 {a : Int} {e : List S69} {k0 : Int} (c : ¬ (bL a e && (decide (0 ≤ k0) && decide (k0 ≤ 8))) = true) : f8 a e k0 = ([], false) := if_neg c
theorem ov (a : Int) (e : List S69) (k0 : Int) (he : e.length ≤ 1048576) : Ev (fun k => dQ k a e k0) (f8 a e k0) := by
 by_cases hg : bL a e = true
 · have h1 := ed hg
   by_cases c : (decide (0 ≤ k0) && decide (k0 ≤ 8)) = true
   · rw [ol hg c]
     obtain ⟨n, rfl⟩ := Int.eq_ofNat_of_zero_le h1.1
     unfold dQ
     refine Ev.bind (ip _ e he) ?_
     refine Ev.pos hg ?_
     refine Ev.bindo (iI _ _ _) ?_
     refine Ev.pos c ?_
     rw [Int.toNat_natCast]
     exact Ev.bindo (o3 n (by omega) e he hg k0 k0) (Ev.now _)
   · rw [j5 (by rw [hg, Bool.true_and]; exact c)]
     unfold dQ
     refine Ev.bind (ip _ e he) ?_
     refine Ev.pos hg ?_
     refine Ev.bindo (iI _ _ _) ?_
     exact Ev.neg c (Ev.now _)
 · rw [j5 (by rw [Bool.and_eq_true]; exact fun h => hg h.1)]
   unfold dQ
   refine Ev.bind (ip _ e he) ?_
   exact Ev.neg hg (Ev.now _)
theorem iY (n : Int) (h0 : 0 ≤ n) (h1 : n < 2 ^ 8) : IntKind.u64.wrap n = n := by
 simp [IntKind.wrap, IntKind.bits, IntKind.signed]
 omega
theorem iz (n y : Nat) (hn : n < 256) (hy : y < 8) : aH (n : Int) (y : Int) = n.testBit y := by
 unfold aH ch
 have e : (n : Int) / 2 ^ min (y : Int).toNat IntKind.u64.bits = ((n / 2 ^ y : Nat) : Int) := by
  rw [Int.toNat_natCast, Nat.min_eq_left (by show y ≤ 64; omega)]
  simp
 rw [e, show (1 : Int) = ((1 : Nat) : Int) from rfl, (bits_nat .u64 8 (by decide) iY (n / 2 ^ y) 1 (Nat.lt_of_le_of_lt (Nat.div_le_self _ _) hn) (by decide)).1, Nat.and_one_is_mod, Nat.testBit_eq_decide_div_mod_eq, Bool.eq_iff_iff, beq_iff_eq, decide_eq_true_eq]
 omega
theorem nB (n m : Nat) (hn : n < 256) (hm : m < 256) : ∃ q : Nat, b6 (n : Int) (m : Int) = (q : Int) ∧ q < 256 ∧ ∀ y : Nat, q.testBit y = (n.testBit y && !m.testBit y) ∨ 8 ≤ y := by
 have h1 : (BitVec.ofNat 64 n &&& ~~~ BitVec.ofNat 64 m).toNat ≤ n := by
   rw [BitVec.toNat_and, BitVec.toNat_ofNat, Nat.mod_eq_of_lt (by omega)]
   exact Nat.and_le_left
 refine ⟨(BitVec.ofNat 64 n &&& ~~~ BitVec.ofNat 64 m).toNat, ?_, by omega, fun y => ?_⟩
 · unfold b6
   simp only [bits, BitVec.ofInt_natCast]
   exact iY _ (Int.natCast_nonneg _) (by
     have h2 : (BitVec.ofNat IntKind.u64.bits n &&& ~~~ BitVec.ofNat IntKind.u64.bits m).toNat ≤ n := h1
     have h3 : (2 : Int) ^ 8 = 256 := by decide
     rw [h3]
     omega)
 · by_cases hy : 8 ≤ y
   · exact .inr hy
   · left
     rw [BitVec.testBit_toNat, BitVec.getLsbD_and, BitVec.getLsbD_not, BitVec.getLsbD_ofNat, BitVec.getLsbD_ofNat]
     have : y < 64 := by omega
     simp [this]
theorem nC {b c : Int} (hb : 0 ≤ b ∧ b < 256) (hc : 0 ≤ c ∧ c < 256) : (0 ≤ b6 b c ∧ b6 b c < 256) ∧ ∀ y, 0 ≤ y → y < 8 → aH (b6 b c) y = (aH b y && !aH c y) := by
 obtain ⟨n, rfl⟩ := Int.eq_ofNat_of_zero_le hb.1
 obtain ⟨m, rfl⟩ := Int.eq_ofNat_of_zero_le hc.1
 obtain ⟨q, h1, h2, h3⟩ := nB n m (by omega) (by omega)
 rw [h1]
 refine ⟨by omega, fun y h0 h8 => ?_⟩
 obtain ⟨z, rfl⟩ := Int.eq_ofNat_of_zero_le h0
 rw [iz q z h2 (by omega), iz n z (by omega) (by omega), iz m z (by omega) (by omega)]
 rcases h3 z with h | h
 · exact h
 · omega
theorem gu {x : List Int} (hx : SetN 8 x) (z : Int) (h0 : 0 ≤ z) (h8 : z < 8) : aH (aK 0 x) z = decide (z ∈ x) := by
 have h1 := (hx.code (by decide)).2
 rw [Bool.eq_iff_iff, decide_eq_true_eq]
 constructor
 · intro h
   rw [← h1]
   exact (cD _ _ _ _).2 ⟨by omega, h⟩
 · intro h
   rw [← h1] at h
   exact ((cD _ _ _ _).1 h).2
theorem nh {x : List Int} (hx : SetN 8 x) (y : List Int) : SetN 8 (a8 x y) := ⟨hx.1.filter _, fun z hz => hx.2 z (List.mem_filter.1 hz).1⟩
theorem hZ {x y : List Int} (hx : SetN 8 x) (hy : SetN 8 y) : bG (b6 (aK 0 x) (aK 0 y)) = a8 x y ∧ (0 ≤ b6 (aK 0 x) (aK 0 y) ∧ b6 (aK 0 x) (aK 0 y) < 256) := by
 have h1 := (hx.code (by decide)).1
 have h2 := (hy.code (by decide)).1
 have h3 := nC (b := aK 0 x) (c := aK 0 y) (by omega) (by omega)
 refine ⟨?_, h3.1⟩
 refine jG (fN _ _ _) (nh hx y).1 fun z => ?_
 unfold a8 bG
 rw [cD, List.mem_filter]
 constructor
 · rintro ⟨h4, h5⟩
   rw [h3.2 z (by omega) (by omega), gu hx z (by omega) (by omega), gu hy z (by omega) (by omega), Bool.and_eq_true, decide_eq_true_eq] at h5
   exact h5
 · rintro ⟨h4, h5⟩
   have h6 := hx.2 z h4
   refine ⟨by omega, ?_⟩
   rw [h3.2 z (by omega) (by omega), gu hx z (by omega) (by omega), gu hy z (by omega) (by omega), af h4, Bool.true_and]
   exact h5
theorem e4 {x : List Int} (hx : SetN 8 x) : x.length ≤ 8 := hx.len
theorem nk {x y : List Int} (hx : SetN 8 x) (hy : SetN 8 y) : Ev (fun k => el k x y) (b6 (aK 0 x) (aK 0 y), b6 (aK 0 y) (aK 0 x)) := by
 have h1 := e4 hx
 have h2 := e4 hy
 unfold el
 refine Ev.bind (kG x (by omega) fun z hz => hx.2 z hz) ?_
 refine Ev.bind (kG y (by omega) fun z hz => hy.2 z hz) ?_
 exact Ev.now _
theorem jt {x y : List Int} (hx : SetN 8 x) (hy : SetN 8 y) : dd (b6 (aK 0 x) (aK 0 y)) = some ((a8 x y).length : Int) := by
 have h1 := hZ hx hy
 rw [ju h1.2.1 h1.2.2, ← h1.1]
theorem qo (n : Nat) : ((n : Int) == 1) = (n == 1) := by rw [Bool.eq_iff_iff, beq_iff_eq, beq_iff_eq]; omega
theorem jN (es : List S69) (a b : Int) : hU es a b = bM es a b := by
 unfold hU bM
 rfl
theorem fV (l : List Int) : rd l 0 = l.headD 0 := by cases l <;> rfl
theorem l9 (a : Int) (es : List S69) (hl : es.length ≤ 1048576) (hu : ∀ e ∈ es, e.f0 < e.f1) {x y : List Int} (hx : SetN 8 x) (hy : SetN 8 y) : Ev (fun k => dC k a es x y) (cg es x y) := by
 unfold dC cg f7
 refine Ev.bind (nk hx hy) ?_
 refine Ev.bindo (jt hx hy) ?_
 by_cases c : (a8 x y).length = 1
 · rw [beq_iff_eq.mpr c, Bool.true_and]
   refine Ev.pos (by omega) ?_
   refine Ev.bindo (jt hy hx) ?_
   by_cases c2 : (a8 y x).length = 1
   · rw [beq_iff_eq.mpr c2, Bool.true_and]
     refine Ev.pos (by omega) ?_
     refine Ev.bind (iK _) ?_
     rw [show aG (aH (b6 (aK 0 x) (aK 0 y))) 8 0 = a8 x y from (hZ hx hy).1]
     refine Ev.pos (by omega) ?_
     refine Ev.bind (iK _) ?_
     rw [show aG (aH (b6 (aK 0 y) (aK 0 x))) 8 0 = a8 y x from (hZ hy hx).1]
     refine Ev.pos (by omega) ?_
     rw [fV, fV, jN]
     exact Ev.bind (oV a es _ _ hl hu) (Ev.now _)
   · rw [beq_eq_false_iff_ne.mpr c2, Bool.false_and]
     exact Ev.neg (by omega) (Ev.now _)
 · rw [beq_eq_false_iff_ne.mpr c, Bool.false_and, Bool.false_and]
   exact Ev.neg (by omega) (Ev.now _)
theorem ng (x y : List Int) (hx : x.length ≤ 1048576) (hy : y.length ≤ 1048576) (d : Nat) : ∀ (m : Nat) (acc : List Int), x.length - m = d → m ≤ x.length → acc.length ≤ m → Ev (fun k => cw k x y acc (m : Int)) (acc ++ a8 (x.drop m) y) := by
 induction d with
 | zero =>
  intro m acc h0 h1 h2
  rw [List.drop_eq_nil_of_le (by omega), show a8 [] y = [] from rfl, List.append_nil]
  refine Ev.step (fun k => by rw [cw]) (Ev.neg (by omega) (Ev.now _))
 | succ d ih =>
  intro m acc h0 h1 h2
  have hm : m < x.length := by omega
  refine Ev.step (fun k => by rw [cw]) (Ev.pos (by omega) (Ev.pos (by omega) ?_))
  rw [ck x m hm, bk hm (by omega)]
  refine Ev.bind (n8 y _ hy) ?_
  rw [List.drop_eq_getElem_cons hm]
  by_cases c : x[m] ∈ y
  · refine Ev.pos (af c) ?_
    have := ih (m + 1) acc (by omega) (by omega) (by omega)
    have e : a8 (x[m] :: x.drop (m + 1)) y = a8 (x.drop (m + 1)) y := by unfold a8; rw [List.filter_cons_of_neg (by simp [c])]
    rw [e]
    exact this
  · refine Ev.neg (by simp [c]) (Ev.pos (by omega) ?_)
    have := ih (m + 1) (acc ++ [x[m]]) (by omega) (by omega) (by rw [List.length_append, List.length_singleton]; omega)
    have e : a8 (x[m] :: x.drop (m + 1)) y = x[m] :: a8 (x.drop (m + 1)) y := by unfold a8; rw [List.filter_cons_of_pos (by simp [c])]
    rw [e]
    rw [List.append_assoc] at this
    exact this
theorem jJ (x y : List Int) (hx : x.length ≤ 1048576) (hy : y.length ≤ 1048576) : Ev (fun k => dX k x y) (a8 x y) := by
 have := ng x y hx hy x.length 0 [] (by omega) (by omega) (by simp)
 unfold dX
 simpa only [List.nil_append, List.drop_zero, Int.natCast_zero] using this
def bI (es : List S69) (kind : Int) (x y : List Int) : Bool := if kind = 2 then gy x y else if kind = 1 then f7 x y else cg es x y
theorem jK (x y : List Int) : (a8 x y).length ≤ x.length := List.length_filter_le _ _
theorem lE (a : Int) (es : List S69) (hl : es.length ≤ 1048576) (kind : Int) (x y : List Int) (hx : x.length ≤ 1048576) (hy : y.length ≤ 1048576) : Ev (fun k => dI k a es kind x y) (bI es kind x y) := by
 have h1 := jK x y
 have h2 := jK y x
 unfold dI bI
 refine Ev.bind (jJ x y hx hy) ?_
 refine Ev.bind (jJ y x hy hx) ?_
 by_cases c : kind = 2
 · rw [if_pos c]
   refine Ev.pos c ?_
   unfold gy
   rw [ct (by omega) (by omega), show ((a8 x y).length : Int) + ((a8 y x).length : Int) = (((a8 x y).length + (a8 y x).length : Nat) : Int) by omega, qo]
   exact Ev.now _
 · rw [if_neg c]
   refine Ev.neg c ?_
   unfold cg f7
   by_cases c1 : (a8 x y).length = 1
   · rw [beq_iff_eq.mpr c1, Bool.true_and]
     refine Ev.pos (by omega) ?_
     by_cases c2 : (a8 y x).length = 1
     · rw [beq_iff_eq.mpr c2, Bool.true_and]
       refine Ev.pos (by omega) ?_
       by_cases c3 : kind = 1
       · rw [if_pos c3]
         exact Ev.pos c3 (Ev.now _)
       · rw [if_neg c3]
         refine Ev.neg c3 (Ev.pos (by omega) (Ev.pos (by omega) ?_))
         rw [fV, fV, jN]
         exact Ev.bind (jM a es _ _ hl) (Ev.now _)
     · rw [beq_eq_false_iff_ne.mpr c2, Bool.false_and, ite_self]
       exact Ev.neg (by omega) (Ev.now _)
   · rw [beq_eq_false_iff_ne.mpr c1, Bool.false_and, Bool.false_and, ite_self]
     exact Ev.neg (by omega) (Ev.now _)
section
variable (a : Int) (es : List S69) (kind : Int) (ls : List (List Int)) (st : List Int → List Int → Bool) (hls : ls.length ≤ 1024) (hst : ∀ x ∈ ls, ∀ y ∈ ls, Ev (fun k => dI k a es kind x y) (st x y)) (R : List S69) (hR : R.length ≤ 1048576)
include hls hst hR
theorem mz (i : Nat) (hi : i < ls.length) (hnext : ∀ acc, acc ++ aQ st (i + 1) (ls.drop (i + 1)) = R → Ev (fun k => cJ k kind ls ((i + 1 : Nat) : Int) a es ls acc) (ls, R)) (d : Nat) :
  ∀ (m : Nat) (acc : List S69), ls.length - m = d → m ≤ ls.length → acc ++ bJ st ls[i] i m (ls.drop m) ++ aQ st (i + 1) (ls.drop (i + 1)) = R → Ev (fun k => cI k kind ls (i : Int) (m : Int) a es ls acc) (ls, R) := by
 induction d with
 | zero =>
  intro m acc h0 h1 h2
  rw [List.drop_eq_nil_of_le (show ls.length ≤ m by omega), bJ, List.append_nil] at h2
  refine Ev.step (fun k => by rw [cI]) (Ev.neg (by omega) ?_)
  rw [bk hi (by omega)]
  exact hnext acc h2
 | succ d ih =>
  intro m acc h0 h1 h2
  have hm : m < ls.length := by omega
  have hal : acc.length ≤ 1048576 := by
   have := congrArg List.length h2
   simp only [List.length_append] at this
   omega
  rw [List.drop_eq_getElem_cons hm, bJ] at h2
  refine Ev.step (fun k => by rw [cI]) (Ev.pos (by omega) (Ev.pos (by omega) (Ev.pos (by omega) (Ev.pos (by omega) ?_))))
  rw [bE ls i hi, bE ls m hm, bk hm (by omega)]
  refine Ev.bind (hst _ (List.getElem_mem _) _ (List.getElem_mem _)) ?_
  cases c : st ls[i] ls[m] with
  | true =>
   rw [c, if_pos rfl] at h2
   refine Ev.pos rfl (Ev.pos (by omega) ?_)
   exact ih (m + 1) _ (by omega) (by omega) (by simpa only [List.append_assoc] using h2)
  | false =>
   rw [c, if_neg (by decide), List.nil_append] at h2
   exact Ev.neg (by decide) (ih (m + 1) _ (by omega) (by omega) h2)
theorem qy (d : Nat) : ∀ (i : Nat) (acc : List S69), ls.length - i = d → i ≤ ls.length → acc ++ aQ st i (ls.drop i) = R → Ev (fun k => cJ k kind ls (i : Int) a es ls acc) (ls, R) := by
 induction d with
 | zero =>
  intro i acc h0 h1 h2
  rw [List.drop_eq_nil_of_le (show ls.length ≤ i by omega), aQ, List.append_nil] at h2
  refine Ev.step (fun k => by rw [cJ]) (Ev.neg (by omega) ?_)
  rw [h2]
  exact Ev.now _
 | succ d ih =>
  intro i acc h0 h1 h2
  have hi : i < ls.length := by omega
  rw [List.drop_eq_getElem_cons hi, aQ, ← List.append_assoc] at h2
  refine Ev.step (fun k => by rw [cJ]) (Ev.pos (by omega) ?_)
  rw [bk hi (by omega)]
  exact mz a es kind ls st hls hst R hR i hi (fun acc' h => ih (i + 1) acc' (by omega) (by omega) h) _ (i + 1) acc rfl (by omega) h2
end
theorem nR (a : Int) (es : List S69) (kind : Int) (ls : List (List Int)) (st : List Int → List Int → Bool) (hls : ls.length ≤ 1024) (hst : ∀ x ∈ ls, ∀ y ∈ ls, Ev (fun k => dI k a es kind x y) (st x y)) : Ev (fun k => dJ k a es kind ls) (ls, aQ st 0 ls) := by
 have h1 := iM st ls 0
 have h4 : ls.length * ls.length ≤ 1024 * 1024 := Nat.mul_le_mul hls hls
 have := qy a es kind ls st hls hst (aQ st 0 ls) (by omega) ls.length 0 [] (by omega) (by omega) (by rw [List.drop_zero, List.nil_append])
 unfold dJ
 simpa only [Int.natCast_zero] using this
theorem pM {α β : Type} (t : List α) (f : Nat → α → Option β) (g : α → β) (h : ∀ x ∈ t, Ev (fun k => f k x) (g x)) : ∃ K, ∀ k, K ≤ k → ∀ x ∈ t, f k x = some (g x) := by
 induction t with
 | nil => exact ⟨0, fun _ _ x hx => by cases hx⟩
 | cons a t ih =>
  obtain ⟨K, hK⟩ := ih fun x hx => h x (List.mem_cons_of_mem _ hx)
  obtain ⟨K', hK'⟩ := h a (List.mem_cons_self ..)
  refine ⟨max K K', fun k hk x hx => ?_⟩
  rcases List.mem_cons.1 hx with rfl | hx
  · exact hK' k (by omega)
  · exact hK k (by omega) x hx
theorem lX (f : Nat → List Int → List Int → Option Bool) (st : List Int → List Int → Bool) (t : List (List Int)) (hl : t.length ≤ 1024) (h : ∀ x ∈ t, ∀ y ∈ t, Ev (fun k => f k x y) (st x y)) (hs : bq t = t) : Ev (fun k => d8 (gx (f k) st t) st t) (t, aQ st 0 t, true) := by
 obtain ⟨K, hK⟩ := pM (t.flatMap fun x => t.map fun y => (x, y)) (fun k p => f k p.1 p.2) (fun p => st p.1 p.2) fun p hp => by
  obtain ⟨x, hx, hp⟩ := List.mem_flatMap.1 hp
  obtain ⟨y, hy, rfl⟩ := List.mem_map.1 hp
  exact h x hx y hy
 refine ⟨K, fun k hk => ?_⟩
 show d8 _ _ _ = _
 unfold d8
 rw [if_pos ⟨hl, af fun x hx y hy => hK k hk (x, y) (List.mem_flatMap.2 ⟨x, hx, List.mem_map.2 ⟨y, hy, rfl⟩⟩)⟩, hs]
theorem o4 {n : Nat} (hn : n ≤ 8) (e : List S69) (lo hi : Int) : bq (aN n e lo hi) = aN n e lo hi :=
 jQ _ _ (gR _ (kj hn e lo hi).nodup) (kj hn e lo hi) fun s => fK _ _
theorem fw {n : Nat} (hn : n ≤ 8) {e : List S69} {lo hi : Int} {s : List Int} (h : s ∈ aN n e lo hi) : SetN 8 s := ((o5 hn e lo hi s).1 h).1.wide hn
def cj : Nat → Int → List Int
 | 0, _ => []
 | n + 1, k => k :: cj n (wrap64 (k + 1))
def df : Nat → Int → Int
 | 0, k => k
 | n + 1, k => df n (wrap64 (k + 1))
theorem mr (n : Nat) : ∀ k, (cj n k).length = n := by
 induction n with
 | zero => intro k; rfl
 | succ n ih => intro k; simp [cj, ih]
theorem kr (n : Nat) : ∀ k, 0 ≤ k → k + (n : Int) ≤ 4611686018427387904 → df n k = k + (n : Int) := by
 induction n with
 | zero => intro k h1 h2; simp [df]
 | succ n ih =>
  intro k h1 h2
  have e1 : wrap64 (k + 1) = k + 1 := ct (by omega) (by omega)
  rw [df, e1, ih (k + 1) (by omega) (by omega)]
  omega
theorem oR (d : Nat) : ∀ (done : List Int) (c : Int), done.length + d ≤ 1048576 →
  Ev (fun k => dx k (done ++ cj d c) c (done.length : Int)) (df d c) := by
 induction d with
 | zero =>
  intro done c h1
  refine Ev.step (fun k => by rw [dx]) ?_
  refine Ev.neg (by simp [cj]) ?_
  exact Ev.now _
 | succ d ih =>
  intro done c h1
  refine Ev.step (fun k => by rw [dx]) ?_
  have hlen : (done ++ cj (d + 1) c).length = done.length + (d + 1) := by rw [List.length_append, mr]
  refine Ev.pos (by rw [hlen]; omega) (Ev.pos (by omega) ?_)
  have hr : rd (done ++ cj (d + 1) c) (done.length : Int) = c := by
   rw [ck _ _ (by rw [hlen]; omega)]
   simp [cj]
  refine Ev.pos hr ?_
  have hw : wrap64 ((done.length : Int) + 1) = ((done ++ [c]).length : Int) := by
   rw [List.length_append, List.length_singleton]
   exact bk (n := done.length + 1) (by omega) (by omega)
  rw [hw]
  have := ih (done ++ [c]) (wrap64 (c + 1)) (by rw [List.length_append, List.length_singleton]; omega)
  simpa only [cj, df, List.append_assoc, List.singleton_append] using this
theorem oS (n : Nat) (c : Int) (hn : n ≤ 1048576) : Ev (fun k => fd k (cj n c) c) (df n c) := by
 unfold fd
 have := oR n [] c (by simpa using hn)
 simpa only [List.nil_append, List.length_nil, Int.ofNat_eq_natCast, Int.natCast_zero] using this
theorem mq (n : Nat) : ∀ k, b4 n k = cj n k := by
 induction n with
 | zero => intro k; rfl
 | succ n ih => intro k; simp only [b4, cj, ih]
theorem iD (n : Nat) : ∀ k, b9 n k = df n k := by
 induction n with
 | zero => intro k; rfl
 | succ n ih => intro k; simp only [b9, df, ih]
theorem nt (l : List (List Int)) : ∀ (k : Int), (∀ s ∈ l, s.length ≤ 1048576) → 0 ≤ k → k + 1048576 * (l.length : Int) ≤ 2305843009213693952 → 0 ≤ (bp l k).1 ∧ (bp l k).1 ≤ k + 1048576 * (l.length : Int) := by
 induction l with
 | nil => intro k _ h0 h1; simp only [bp, List.length_nil]; omega
 | cons s t ih =>
  intro k hs h0 h1
  have h2 := hs s (.head _)
  rw [List.length_cons] at h1 ⊢
  have e1 : b9 s.length k = k + (s.length : Int) := by rw [iD, kr s.length k h0 (by omega)]
  simp only [bp, e1]
  have := ih (k + (s.length : Int)) (fun q hq => hs q (.tail _ hq)) (by omega) (by omega)
  omega
theorem nu (l : List (List Int)) (k : Int) : fb l k = some ((bp l k).1, (bp l k).2) := rfl
theorem nq (l : List (List Int)) (h0 : l.length ≤ 1048576) (h : ∀ s ∈ l, s.length ≤ 1048576) : ¬ (bp l 1).1 < 0 := by
 have h1 := nt l 1 h (by omega) (by omega)
 omega
theorem nv (a : Int) (l : List S69) (h : l.length ≤ 1048576) : ∃ k b, fc a l 1 = some (k, b) ∧ ¬ k < 0 ∧ k ≤ 2251799813685248 := ⟨_, _, nw a l 1, nx l h, by rw [jP l 1 (by omega) (by omega)]; omega⟩
theorem oP (done : List (List Int)) : ∀ (t : List (List Int)) (k : Int), (∀ s ∈ t, s.length ≤ 1048576) → 0 ≤ k → k + 1048576 * (t.length : Int) ≤ 2305843009213693952 → done.length + t.length ≤ 1048576 → Ev (fun n => dw n (done ++ (bp t k).2) k (done.length : Int)) (bp t k).1 := by
 intro t
 induction t generalizing done with
 | nil =>
  intro k _ h0 h1 h2
  refine Ev.step (fun n => by rw [dw]) (Ev.neg (by simp [bp]) ?_)
  exact Ev.now _
 | cons s t ih =>
  intro k hs h0 h1 h2
  have h3 := hs s (.head _)
  rw [List.length_cons] at h1 h2
  have e1 : b9 s.length k = k + (s.length : Int) := by rw [iD, kr s.length k h0 (by omega)]
  simp only [bp, e1]
  have hlen : done.length < (done ++ b4 s.length k :: (bp t (k + (s.length : Int))).2).length := by simp
  refine Ev.step (fun n => by rw [dw]) (Ev.pos (by omega) (Ev.pos (by omega) ?_))
  rw [bE _ done.length hlen, List.getElem_append_right (aw _)]
  simp only [Nat.sub_self, List.getElem_cons_zero]
  have hh := oS s.length k h3
  rw [← mq, ← iD, e1] at hh
  refine Ev.bind hh (Ev.neg (by omega) ?_)
  have := ih (done ++ [b4 s.length k]) (k + (s.length : Int)) (fun q hq => hs q (.tail _ hq)) (by omega) (by omega) (by simp; omega)
  rw [List.append_assoc, List.singleton_append] at this
  have ew : wrap64 ((done.length : Int) + 1) = ((done ++ [b4 s.length k]).length : Int) := by
   rw [List.length_append, List.length_singleton]; unfold wrap64; omega
  rw [ew]
  exact this
theorem oQ (t : List (List Int)) (h : ∀ s ∈ t, s.length ≤ 1048576) (hl : t.length ≤ 1048576) : Ev (fun n => eh n (bp t 1).2 1) (bp t 1).1 := by
 have := oP [] t 1 h (by omega) (by omega) (by simpa using hl)
 simpa [eh] using this
theorem nr (l : List (List Int)) (h : l.length ≤ 1048576 ∧ ∀ s ∈ l, s.length ≤ 1048576) : ∃ k b, fb l 1 = some (k, b) ∧ ∃ m, eh m b 1 = some k ∧ ¬ k < 0 := by
 obtain ⟨m, hm⟩ := Ev.rounds (oQ l h.2 h.1)
 exact ⟨_, _, nu l 1, m, hm, nq l h.1 h.2⟩
def gF (a : Int) (e : List S69) (k0 lo hi kind : Int) : List (List Int) × List S69 × Bool :=
 if (bL a e && (decide (0 ≤ k0) && decide (k0 ≤ 8))) = true then (aN a.toNat e lo hi, aQ (bI e kind) 0 (aN a.toNat e lo hi), true) else ([], [], false)
theorem nP (n : Nat) (hn : n ≤ 8) (e : List S69) (he : e.length ≤ 1048576) (lo hi kind : Int) : Ev (fun k => dJ k (n : Int) e kind (aN n e lo hi)) (aN n e lo hi, aQ (bI e kind) 0 (aN n e lo hi)) := by
 have h2 := iB hn e lo hi
 exact nR _ e kind _ _ (by omega) fun x hx y hy => lE _ e he kind x y (by have := e4 (fw hn hx); omega) (by have := e4 (fw hn hy); omega)
theorem om (n : Nat) (hn : n ≤ 8) (e : List S69) (lo hi kind : Int) (f : Nat → List Int → List Int → Option Bool) (h : ∀ x y, SetN 8 x → SetN 8 y → Ev (fun k => f k x y) (bI e kind x y)) : Ev (fun k => d8 (gx (f k) (bI e kind) (aN n e lo hi)) (bI e kind) (aN n e lo hi)) (aN n e lo hi, aQ (bI e kind) 0 (aN n e lo hi), true) := by
 have h2 := iB hn e lo hi
 exact lX f _ _ (by omega) (fun x hx y hy => h x y (fw hn hx) (fw hn hy)) (o4 hn e lo hi)
theorem ja (e : List S69) : bI e 0 = cg e := by funext x y; unfold bI; rw [if_neg (by decide), if_neg (by decide)]
theorem oH (a : Int) (e : List S69) (k0 : Int) (he : e.length ≤ 1048576) : Ev (fun k => fl k a e k0) (gF a e k0 k0 k0 0) := by
 unfold fl gF
 refine Ev.bind (ov a e k0 he) ?_
 unfold f8
 by_cases c : (bL a e && (decide (0 ≤ k0) && decide (k0 ≤ 8))) = true
 · rw [if_pos c, if_pos c]
   have hg := ((Bool.and_eq_true _ _).mp c).1
   have h1 := ed hg
   obtain ⟨n, rfl⟩ := Int.eq_ofNat_of_zero_le h1.1
   refine Ev.pos rfl ?_
   rw [Int.toNat_natCast]
   have := om n (by omega) e k0 k0 0 (fun k => dC k (n : Int) e) (fun x y hx hy => by rw [ja]; exact l9 (n : Int) e he (fun s hs => (h1.2.2 s hs).2.1) hx hy)
   rw [ja] at this ⊢
   exact this
 · rw [if_neg c, if_neg c]
   exact Ev.neg (by decide) (Ev.now _)
end Go.Proofs.YtadjbmcfgjmhkaaGreat.P
