/- All independent sets of some numbers of nodes, as both sides list them. -/
import Derived.Test.YtadjbmcfgjmhkaaGreatSlideWalkG27
import Derived.Test.YtadjbmcfgjmhkaaGreatSlideWalkG26
namespace Go.Proofs.YtadjbmcfgjmhkaaGreat.P
open Go.RowKit YtadjbmcfgjmhkaaGreatW.PrintWords Go.Proofs.YtadjbmcfgjmhkaaGreatW.PrintLast Go.Proofs.YtadjbmcfgjmhkaaGreatW.PrintMore
set_option linter.unusedVariables false
set_option linter.unusedSimpArgs false
def cR (e : List S69) (lo hi b : Int) : Bool := (decide (lo ≤ ((bX b).length : Int)) && decide (((bX b).length : Int) ≤ hi)) && de e (bX b)
def bh (n : Nat) (e : List S69) (lo hi : Int) : List (List Int) := bJ (bS (cR e lo hi) (2 ^ n))
theorem rr {n : Nat} (hn : n ≤ 8) (e : List S69) (lo hi : Int) (s : List Int) : s ∈ bh n e lo hi ↔ SetN n s ∧ (lo ≤ (s.length : Int) ∧ (s.length : Int) ≤ hi) ∧ de e s = true := by
 unfold bh
 rw [hG, my hn]
 refine and_congr_right fun h => ?_
 unfold cR
 rw [(h.code hn).2, Bool.and_eq_true, Bool.and_eq_true, decide_eq_true_eq, decide_eq_true_eq]
theorem jM {n : Nat} (hn : n ≤ 8) (e : List S69) (lo hi : Int) : LexS (bh n e lo hi) := i5 _ (mw (Nat.pow_le_pow_right (n := 2) (by decide) (show n ≤ 8 from hn)) _)
theorem jN {n : Nat} (hn : n ≤ 8) (e : List S69) (lo hi : Int) : (bh n e lo hi).length ≤ 256 := by
 unfold bh
 rw [kP]
 exact Nat.le_trans (gM _ _) (Nat.pow_le_pow_right (n := 2) (by decide) (show n ≤ 8 from hn))
section
variable (n : Nat) (hn : n ≤ 8) (e : List S69) (he : e.length ≤ 1048576) (hg : bQ (n : Int) e = true) (lo hi : Int)
include hn he hg
theorem ru (b : Int) (hb : 0 ≤ b ∧ b < 256) : eQ e lo hi b = cR e lo hi b := by
 have _hu := he
 have h1 := d7 hg
 unfold eQ cR de
 congr 2
 refine j6 e _ _ fun s hs => ?_
 have h2 := h1.2.2 s hs
 unfold dS
 rw [ez (by omega), ez (by omega), Option.getD_some, Option.getD_some]
 have hm : ∀ x : Int, 0 ≤ x → x < 8 → aJ b x = decide (x ∈ bX b) := fun x h0 h8 => by
  rw [Bool.eq_iff_iff, decide_eq_true_eq, dc]
  exact ⟨fun h => ⟨by omega, h⟩, fun h => h.2⟩
 rw [hm _ (by omega) (by omega), hm _ (by omega) (by omega)]
theorem rp : gF (n : Int) e lo hi = some (bh n e lo hi) := by
 have h1 := d7 hg
 have hpow : 2 ^ n ≤ 256 := Nat.pow_le_pow_right (n := 2) (by decide) (show n ≤ 8 from hn)
 unfold gF bh
 rw [if_pos ⟨by omega, by
  unfold gL
  rw [List.all_eq_true]
  intro s hs
  have := h1.2.2 s hs
  rw [ag (show 0 ≤ s.f0 by omega), ag (show 0 ≤ s.f1 by omega)]
  rfl⟩, Int.toNat_natCast]
 unfold bS
 rw [oI (eQ e lo hi) (cR e lo hi) (2 ^ n) 0 fun z h0 h2 => ru n hn e he hg lo hi z ⟨h0, by omega⟩]
theorem p8 (d : Nat) : ∀ m : Nat, 2 ^ n - m = d → m ≤ 2 ^ n → Ev (fun k => b6 k lo hi (bS (cR e lo hi) m) (m : Int) (n : Int) e) (bh n e lo hi) := by
 have hpow : 2 ^ n ≤ 256 := Nat.pow_le_pow_right (n := 2) (by decide) (show n ≤ 8 from hn)
 have h1 := d7 hg
 have hu : ∀ s ∈ e, s.f0 < s.f1 := fun s hs => (h1.2.2 s hs).2.1
 have hw : wrap64 ((n : Int) - 1) = (n : Int) - 1 := b5 (by omega) (by omega)
 have hsh : cP .i64 1 (n : Int) = ((2 ^ n : Nat) : Int) := by
  have : ∀ i : Fin 9, cP .i64 1 i = ((2 ^ i.val : Nat) : Int) := by decide +kernel
  exact this ⟨n, by omega⟩
 induction d with
 | zero =>
  intro m h0 h1
  have hm : m = 2 ^ n := by omega
  subst hm
  refine Ev.step (fun k => by rw [b6]) ?_
  refine Ev.pos (by omega) ?_
  rw [hsh]
  refine Ev.neg (by omega) ?_
  refine Ev.bind (qd _ (by have := gM (cR e lo hi) (2 ^ n); omega) (fun s hs => by
   have := (((my hn _ s).1 hs).1).len
   omega) (mw hpow _)) (Ev.now _)
 | succ d ih =>
  intro m h0 h1
  have hb : 0 ≤ (m : Int) ∧ (m : Int) < ((2 ^ n : Nat) : Int) := by omega
  have hset := mG hn hb
  have hlen := hset.len
  have h5 := ih (m + 1) (by omega) (by omega)
  rw [mz, ← aY (show m < 2 ^ n by omega) (by omega)] at h5
  have hcl := gM (cR e lo hi) m
  have hf := lT (n : Int) e (bX (m : Int)) he (by omega)
  rw [mj e _ _ hu, hw, hset.ris, Bool.true_and] at hf
  refine Ev.step (fun k => by rw [b6]) ?_
  refine Ev.pos (by omega) ?_
  rw [hsh]
  refine Ev.pos hb.2 ?_
  refine Ev.bind (sV n (m : Int) hn hb) ?_
  refine Ev.bindo (gA _ _ _) ?_
  cases c1 : (decide (lo ≤ ((bX (m : Int)).length : Int)) && decide (((bX (m : Int)).length : Int) ≤ hi)) with
  | true =>
   refine Ev.pos rfl ?_
   refine Ev.bind hf ?_
   cases c2 : de e (bX (m : Int)) with
   | true =>
    rw [if_pos (by unfold cR; rw [c1, c2]; rfl)] at h5
    refine Ev.pos rfl ?_
    refine Ev.pos (by omega) ?_
    exact h5
   | false =>
    rw [if_neg (by unfold cR; rw [c2, Bool.and_false]; decide), List.append_nil] at h5
    refine Ev.neg (by decide) ?_
    exact h5
  | false =>
   rw [if_neg (by unfold cR; rw [c1, Bool.false_and]; decide), List.append_nil] at h5
   refine Ev.neg (by decide) ?_
   exact h5
theorem qb : Ev (fun k => fX k (n : Int) e lo hi) (bh n e lo hi) := by
 have h := p8 n hn e he hg lo hi (2 ^ n) 0 (Nat.sub_zero _) (Nat.zero_le _)
 unfold fX
 rw [show bS (cR e lo hi) 0 = [] from rfl] at h
 simpa only [Int.natCast_zero] using h
end
def ir (a : Int) (e : List S69) (k0 : Int) : List (List Int) × Bool := if (bQ a e && (decide (0 ≤ k0) && decide (k0 ≤ 8))) = true then (bh a.toNat e k0 k0, true) else ([], false)
theorem qy {a : Int} {e : List S69} {k0 : Int} (hg : bQ a e = true) (c : (decide (0 ≤ k0) && decide (k0 ≤ 8)) = true) : ir a e k0 = (bh a.toNat e k0 k0, true) := if_pos (by rw [hg, c]; rfl)
theorem lX {a : Int} {e : List S69} {k0 : Int} (c : ¬ (bQ a e && (decide (0 ≤ k0) && decide (k0 ≤ 8))) = true) : ir a e k0 = ([], false) := if_neg c
theorem qF (a : Int) (e : List S69) (k0 : Int) (he : e.length ≤ 1048576) : Ev (fun k => eP k a e k0) (ir a e k0) := by
 by_cases hg : bQ a e = true
 · have h1 := d7 hg
   by_cases c : (decide (0 ≤ k0) && decide (k0 ≤ 8)) = true
   · rw [qy hg c]
     obtain ⟨n, rfl⟩ := Int.eq_ofNat_of_zero_le h1.1
     unfold eP
     refine Ev.bind (iy _ e he) ?_
     refine Ev.pos hg ?_
     refine Ev.bindo (iE _ _ _) ?_
     refine Ev.pos c ?_
     rw [Int.toNat_natCast]
     exact Ev.bindo (rp n (by omega) e he hg k0 k0) (Ev.now _)
   · rw [lX (by rw [hg, Bool.true_and]; exact c)]
     unfold eP
     refine Ev.bind (iy _ e he) ?_
     refine Ev.pos hg ?_
     refine Ev.bindo (iE _ _ _) ?_
     exact Ev.neg c (Ev.now _)
 · rw [lX (by rw [Bool.and_eq_true]; exact fun h => hg h.1)]
   unfold eP
   refine Ev.bind (iy _ e he) ?_
   exact Ev.neg hg (Ev.now _)
theorem ks (n : Int) (h0 : 0 ≤ n) (h1 : n < 2 ^ 8) : IntKind.u64.wrap n = n := by
 simp [IntKind.wrap, IntKind.bits, IntKind.signed]
 omega
theorem jL (n y : Nat) (hn : n < 256) (hy : y < 8) : aJ (n : Int) (y : Int) = n.testBit y := by
 unfold aJ cO
 have e : (n : Int) / 2 ^ min (y : Int).toNat IntKind.u64.bits = ((n / 2 ^ y : Nat) : Int) := by
  rw [Int.toNat_natCast, Nat.min_eq_left (by show y ≤ 64; omega)]
  simp
 rw [e, show (1 : Int) = ((1 : Nat) : Int) from rfl, (bits_nat .u64 8 (by decide) ks (n / 2 ^ y) 1 (Nat.lt_of_le_of_lt (Nat.div_le_self _ _) hn) (by decide)).1, Nat.and_one_is_mod, Nat.testBit_eq_decide_div_mod_eq, Bool.eq_iff_iff, beq_iff_eq, decide_eq_true_eq]
 omega
theorem pM (n m : Nat) (hn : n < 256) (hm : m < 256) : ∃ q : Nat, cB (n : Int) (m : Int) = (q : Int) ∧ q < 256 ∧ ∀ y : Nat, q.testBit y = (n.testBit y && !m.testBit y) ∨ 8 ≤ y := by
 have h1 : (BitVec.ofNat 64 n &&& ~~~ BitVec.ofNat 64 m).toNat ≤ n := by
   rw [BitVec.toNat_and, BitVec.toNat_ofNat, Nat.mod_eq_of_lt (by omega)]
   exact Nat.and_le_left
 refine ⟨(BitVec.ofNat 64 n &&& ~~~ BitVec.ofNat 64 m).toNat, ?_, by omega, fun y => ?_⟩
 · unfold cB
   simp only [bits, BitVec.ofInt_natCast]
   exact ks _ (Int.natCast_nonneg _) (by
     have h2 : (BitVec.ofNat IntKind.u64.bits n &&& ~~~ BitVec.ofNat IntKind.u64.bits m).toNat ≤ n := h1
     have h3 : (2 : Int) ^ 8 = 256 := by decide
     rw [h3]
     omega)
 · by_cases hy : 8 ≤ y
   · exact .inr hy
   · left
     rw [BitVec.testBit_toNat, BitVec.getLsbD_and, BitVec.getLsbD_not, BitVec.getLsbD_ofNat, BitVec.getLsbD_ofNat]
     have : y < 64 := by omega
     simp [this]
theorem pN {b c : Int} (hb : 0 ≤ b ∧ b < 256) (hc : 0 ≤ c ∧ c < 256) : (0 ≤ cB b c ∧ cB b c < 256) ∧ ∀ y, 0 ≤ y → y < 8 → aJ (cB b c) y = (aJ b y && !aJ c y) := by
 obtain ⟨n, rfl⟩ := Int.eq_ofNat_of_zero_le hb.1
 obtain ⟨m, rfl⟩ := Int.eq_ofNat_of_zero_le hc.1
 obtain ⟨q, h1, h2, h3⟩ := pM n m (by omega) (by omega)
 rw [h1]
 refine ⟨by omega, fun y h0 h8 => ?_⟩
 obtain ⟨z, rfl⟩ := Int.eq_ofNat_of_zero_le h0
 rw [jL q z h2 (by omega), jL n z (by omega) (by omega), jL m z (by omega) (by omega)]
 rcases h3 z with h | h
 · exact h
 · omega
theorem iG {x : List Int} (hx : SetN 8 x) (z : Int) (h0 : 0 ≤ z) (h8 : z < 8) : aJ (aZ 0 x) z = decide (z ∈ x) := by
 have h1 := (hx.code (by decide)).2
 rw [Bool.eq_iff_iff, decide_eq_true_eq]
 constructor
 · intro h
   rw [← h1]
   exact (dc _ _ _ _).2 ⟨by omega, h⟩
 · intro h
   rw [← h1] at h
   exact ((dc _ _ _ _).1 h).2
theorem pq {x : List Int} (hx : SetN 8 x) (y : List Int) : SetN 8 (bk x y) := ⟨hx.1.filter _, fun z hz => hx.2 z (List.mem_filter.1 hz).1⟩
theorem jr {x y : List Int} (hx : SetN 8 x) (hy : SetN 8 y) : bX (cB (aZ 0 x) (aZ 0 y)) = bk x y ∧ (0 ≤ cB (aZ 0 x) (aZ 0 y) ∧ cB (aZ 0 x) (aZ 0 y) < 256) := by
 have h1 := (hx.code (by decide)).1
 have h2 := (hy.code (by decide)).1
 have h3 := pN (b := aZ 0 x) (c := aZ 0 y) (by omega) (by omega)
 refine ⟨?_, h3.1⟩
 refine lu (hL _ _ _) (pq hx y).1 fun z => ?_
 unfold bk bX
 rw [dc, List.mem_filter]
 constructor
 · rintro ⟨h4, h5⟩
   rw [h3.2 z (by omega) (by omega), iG hx z (by omega) (by omega), iG hy z (by omega) (by omega), Bool.and_eq_true, decide_eq_true_eq] at h5
   exact h5
 · rintro ⟨h4, h5⟩
   have h6 := hx.2 z h4
   refine ⟨by omega, ?_⟩
   rw [h3.2 z (by omega) (by omega), iG hx z (by omega) (by omega), iG hy z (by omega) (by omega), ag h4, Bool.true_and]
   exact h5
theorem gm {x : List Int} (hx : SetN 8 x) : x.length ≤ 8 := hx.len
theorem pw {x y : List Int} (hx : SetN 8 x) (hy : SetN 8 y) : Ev (fun k => fz k x y) (cB (aZ 0 x) (aZ 0 y), cB (aZ 0 y) (aZ 0 x)) := by
 have h1 := gm hx
 have h2 := gm hy
 unfold fz
 refine Ev.bind (j3 x (by omega) fun z hz => hx.2 z hz) ?_
 refine Ev.bind (j3 y (by omega) fun z hz => hy.2 z hz) ?_
 exact Ev.now _
theorem kS {x y : List Int} (hx : SetN 8 x) (hy : SetN 8 y) : dP (cB (aZ 0 x) (aZ 0 y)) = some ((bk x y).length : Int) := by
 have h1 := jr hx hy
 rw [kT h1.2.1 h1.2.2, ← h1.1]
theorem sZ (n : Nat) : ((n : Int) == 1) = (n == 1) := by rw [Bool.eq_iff_iff, beq_iff_eq, beq_iff_eq]; omega
theorem lD (es : List S69) (a b : Int) : jp es a b = b4 es a b := by
 unfold jp b4
 rfl
theorem ic (l : List Int) : rd l 0 = l.headD 0 := by cases l <;> rfl
theorem om (a : Int) (es : List S69) (hl : es.length ≤ 1048576) (hu : ∀ e ∈ es, e.f0 < e.f1) {x y : List Int} (hx : SetN 8 x) (hy : SetN 8 y) : Ev (fun k => em k a es x y) (cN es x y) := by
 unfold em cN iq
 refine Ev.bind (pw hx hy) ?_
 refine Ev.bindo (kS hx hy) ?_
 by_cases c : (bk x y).length = 1
 · rw [beq_iff_eq.mpr c, Bool.true_and]
   refine Ev.pos (by omega) ?_
   refine Ev.bindo (kS hy hx) ?_
   by_cases c2 : (bk y x).length = 1
   · rw [beq_iff_eq.mpr c2, Bool.true_and]
     refine Ev.pos (by omega) ?_
     refine Ev.bind (jY _) ?_
     rw [show aI (aJ (cB (aZ 0 x) (aZ 0 y))) 8 0 = bk x y from (jr hx hy).1]
     refine Ev.pos (by omega) ?_
     refine Ev.bind (jY _) ?_
     rw [show aI (aJ (cB (aZ 0 y) (aZ 0 x))) 8 0 = bk y x from (jr hy hx).1]
     refine Ev.pos (by omega) ?_
     rw [ic, ic, lD]
     exact Ev.bind (rh a es _ _ hl hu) (Ev.now _)
   · rw [beq_eq_false_iff_ne.mpr c2, Bool.false_and]
     exact Ev.neg (by omega) (Ev.now _)
 · rw [beq_eq_false_iff_ne.mpr c, Bool.false_and, Bool.false_and]
   exact Ev.neg (by omega) (Ev.now _)
theorem pp (x y : List Int) (hx : x.length ≤ 1048576) (hy : y.length ≤ 1048576) (d : Nat) : ∀ (m : Nat) (acc : List Int), x.length - m = d → m ≤ x.length → acc.length ≤ m → Ev (fun k => cV k x y acc (m : Int)) (acc ++ bk (x.drop m) y) := by
 induction d with
 | zero =>
  intro m acc h0 h1 h2
  rw [List.drop_eq_nil_of_le (by omega), show bk [] y = [] from rfl, List.append_nil]
  refine Ev.step (fun k => by rw [cV]) (Ev.neg (by omega) (Ev.now _))
 | succ d ih =>
  intro m acc h0 h1 h2
  have hm : m < x.length := by omega
  refine Ev.step (fun k => by rw [cV]) (Ev.pos (by omega) (Ev.pos (by omega) ?_))
  rw [bl x m hm, aY hm (by omega)]
  refine Ev.bind (qm y _ hy) ?_
  rw [List.drop_eq_getElem_cons hm]
  by_cases c : x[m] ∈ y
  · refine Ev.pos (ag c) ?_
    have := ih (m + 1) acc (by omega) (by omega) (by omega)
    have e : bk (x[m] :: x.drop (m + 1)) y = bk (x.drop (m + 1)) y := by unfold bk; rw [List.filter_cons_of_neg (by simp [c])]
    rw [e]
    exact this
  · refine Ev.neg (by simp [c]) (Ev.pos (by omega) ?_)
    have := ih (m + 1) (acc ++ [x[m]]) (by omega) (by omega) (by rw [List.length_append, List.length_singleton]; omega)
    have e : bk (x[m] :: x.drop (m + 1)) y = x[m] :: bk (x.drop (m + 1)) y := by unfold bk; rw [List.filter_cons_of_pos (by simp [c])]
    rw [e]
    rw [List.append_assoc] at this
    exact this
theorem ly (x y : List Int) (hx : x.length ≤ 1048576) (hy : y.length ≤ 1048576) : Ev (fun k => fa k x y) (bk x y) := by
 have := pp x y hx hy x.length 0 [] (by omega) (by omega) (by simp)
 unfold fa
 simpa only [List.nil_append, List.drop_zero, Int.natCast_zero] using this
def cm (es : List S69) (kind : Int) (x y : List Int) : Bool := if kind = 2 then iJ x y else if kind = 1 then iq x y else cN es x y
theorem lz (x y : List Int) : (bk x y).length ≤ x.length := List.length_filter_le _ _
theorem nx (a : Int) (es : List S69) (hl : es.length ≤ 1048576) (kind : Int) (x y : List Int) (hx : x.length ≤ 1048576) (hy : y.length ≤ 1048576) : Ev (fun k => eC k a es kind x y) (cm es kind x y) := by
 have h1 := lz x y
 have h2 := lz y x
 unfold eC cm
 refine Ev.bind (ly x y hx hy) ?_
 refine Ev.bind (ly y x hy hx) ?_
 by_cases c : kind = 2
 · rw [if_pos c]
   refine Ev.pos c ?_
   unfold iJ
   rw [b5 (by omega) (by omega), show ((bk x y).length : Int) + ((bk y x).length : Int) = (((bk x y).length + (bk y x).length : Nat) : Int) by omega, sZ]
   exact Ev.now _
 · rw [if_neg c]
   refine Ev.neg c ?_
   unfold cN iq
   by_cases c1 : (bk x y).length = 1
   · rw [beq_iff_eq.mpr c1, Bool.true_and]
     refine Ev.pos (by omega) ?_
     by_cases c2 : (bk y x).length = 1
     · rw [beq_iff_eq.mpr c2, Bool.true_and]
       refine Ev.pos (by omega) ?_
       by_cases c3 : kind = 1
       · rw [if_pos c3]
         exact Ev.pos c3 (Ev.now _)
       · rw [if_neg c3]
         refine Ev.neg c3 (Ev.pos (by omega) (Ev.pos (by omega) ?_))
         rw [ic, ic, lD]
         exact Ev.bind (lC a es _ _ hl) (Ev.now _)
     · rw [beq_eq_false_iff_ne.mpr c2, Bool.false_and, ite_self]
       exact Ev.neg (by omega) (Ev.now _)
   · rw [beq_eq_false_iff_ne.mpr c1, Bool.false_and, Bool.false_and, ite_self]
     exact Ev.neg (by omega) (Ev.now _)
section
variable (a : Int) (es : List S69) (kind : Int) (ls : List (List Int)) (st : List Int → List Int → Bool) (hls : ls.length ≤ 1024) (hst : ∀ x ∈ ls, ∀ y ∈ ls, Ev (fun k => eC k a es kind x y) (st x y)) (R : List S69) (hR : R.length ≤ 1048576)
include hls hst hR
theorem oL (i : Nat) (hi : i < ls.length) (hnext : ∀ acc, acc ++ bg st (i + 1) (ls.drop (i + 1)) = R → Ev (fun k => dl k kind ls ((i + 1 : Nat) : Int) a es ls acc) (ls, R)) (d : Nat) :
  ∀ (m : Nat) (acc : List S69), ls.length - m = d → m ≤ ls.length → acc ++ bY st ls[i] i m (ls.drop m) ++ bg st (i + 1) (ls.drop (i + 1)) = R → Ev (fun k => dj k kind ls (i : Int) (m : Int) a es ls acc) (ls, R) := by
 induction d with
 | zero =>
  intro m acc h0 h1 h2
  rw [List.drop_eq_nil_of_le (show ls.length ≤ m by omega), bY, List.append_nil] at h2
  refine Ev.step (fun k => by rw [dj]) (Ev.neg (by omega) ?_)
  rw [aY hi (by omega)]
  exact hnext acc h2
 | succ d ih =>
  intro m acc h0 h1 h2
  have hm : m < ls.length := by omega
  have hal : acc.length ≤ 1048576 := by
   have := congrArg List.length h2
   simp only [List.length_append] at this
   omega
  rw [List.drop_eq_getElem_cons hm, bY] at h2
  refine Ev.step (fun k => by rw [dj]) (Ev.pos (by omega) (Ev.pos (by omega) (Ev.pos (by omega) (Ev.pos (by omega) ?_))))
  rw [bV ls i hi, bV ls m hm, aY hm (by omega)]
  refine Ev.bind (hst _ (List.getElem_mem _) _ (List.getElem_mem _)) ?_
  cases c : st ls[i] ls[m] with
  | true =>
   rw [c, if_pos rfl] at h2
   refine Ev.pos rfl (Ev.pos (by omega) ?_)
   exact ih (m + 1) _ (by omega) (by omega) (by simpa only [List.append_assoc] using h2)
  | false =>
   rw [c, if_neg (by decide), List.nil_append] at h2
   exact Ev.neg (by decide) (ih (m + 1) _ (by omega) (by omega) h2)
theorem tc (d : Nat) : ∀ (i : Nat) (acc : List S69), ls.length - i = d → i ≤ ls.length → acc ++ bg st i (ls.drop i) = R → Ev (fun k => dl k kind ls (i : Int) a es ls acc) (ls, R) := by
 induction d with
 | zero =>
  intro i acc h0 h1 h2
  rw [List.drop_eq_nil_of_le (show ls.length ≤ i by omega), bg, List.append_nil] at h2
  refine Ev.step (fun k => by rw [dl]) (Ev.neg (by omega) ?_)
  rw [h2]
  exact Ev.now _
 | succ d ih =>
  intro i acc h0 h1 h2
  have hi : i < ls.length := by omega
  rw [List.drop_eq_getElem_cons hi, bg, ← List.append_assoc] at h2
  refine Ev.step (fun k => by rw [dl]) (Ev.pos (by omega) ?_)
  rw [aY hi (by omega)]
  exact oL a es kind ls st hls hst R hR i hi (fun acc' h => ih (i + 1) acc' (by omega) (by omega) h) _ (i + 1) acc rfl (by omega) h2
end
theorem qa (a : Int) (es : List S69) (kind : Int) (ls : List (List Int)) (st : List Int → List Int → Bool) (hls : ls.length ≤ 1024) (hst : ∀ x ∈ ls, ∀ y ∈ ls, Ev (fun k => eC k a es kind x y) (st x y)) : Ev (fun k => eZ k a es kind ls) (ls, bg st 0 ls) := by
 have h1 := j7 st ls 0
 have h4 : ls.length * ls.length ≤ 1024 * 1024 := Nat.mul_le_mul hls hls
 have := tc a es kind ls st hls hst (bg st 0 ls) (by omega) ls.length 0 [] (by omega) (by omega) (by rw [List.drop_zero, List.nil_append])
 unfold eZ
 simpa only [Int.natCast_zero] using this
theorem si {α β : Type} (t : List α) (f : Nat → α → Option β) (g : α → β) (h : ∀ x ∈ t, Ev (fun k => f k x) (g x)) : ∃ K, ∀ k, K ≤ k → ∀ x ∈ t, f k x = some (g x) := by
 induction t with
 | nil => exact ⟨0, fun _ _ x hx => by cases hx⟩
 | cons a t ih =>
  obtain ⟨K, hK⟩ := ih fun x hx => h x (List.mem_cons_of_mem _ hx)
  obtain ⟨K', hK'⟩ := h a (List.mem_cons_self ..)
  refine ⟨max K K', fun k hk x hx => ?_⟩
  rcases List.mem_cons.1 hx with rfl | hx
  · exact hK' k (by omega)
  · exact hK k (by omega) x hx
theorem oa (f : Nat → List Int → List Int → Option Bool) (st : List Int → List Int → Bool) (t : List (List Int)) (hl : t.length ≤ 1024) (h : ∀ x ∈ t, ∀ y ∈ t, Ev (fun k => f k x y) (st x y)) (hs : bJ t = t) : Ev (fun k => fj (iI (f k) st t) st t) (t, bg st 0 t, true) := by
 obtain ⟨K, hK⟩ := si (t.flatMap fun x => t.map fun y => (x, y)) (fun k p => f k p.1 p.2) (fun p => st p.1 p.2) fun p hp => by
  obtain ⟨x, hx, hp⟩ := List.mem_flatMap.1 hp
  obtain ⟨y, hy, rfl⟩ := List.mem_map.1 hp
  exact h x hx y hy
 refine ⟨K, fun k hk => ?_⟩
 show fj _ _ _ = _
 unfold fj
 rw [if_pos ⟨hl, ag fun x hx y hy => hK k hk (x, y) (List.mem_flatMap.2 ⟨x, hx, List.mem_map.2 ⟨y, hy, rfl⟩⟩)⟩, hs]
theorem rq {n : Nat} (hn : n ≤ 8) (e : List S69) (lo hi : Int) : bJ (bh n e lo hi) = bh n e lo hi :=
 lI _ _ (i5 _ (jM hn e lo hi).nodup) (jM hn e lo hi) fun s => hG _ _
theorem gJ {n : Nat} (hn : n ≤ 8) {e : List S69} {lo hi : Int} {s : List Int} (h : s ∈ bh n e lo hi) : SetN 8 s := ((rr hn e lo hi s).1 h).1.wide hn
def b7 : Nat → Int → List Int
 | 0, _ => []
 | n + 1, k => k :: b7 n (wrap64 (k + 1))
def cI : Nat → Int → Int
 | 0, k => k
 | n + 1, k => cI n (wrap64 (k + 1))
theorem oF (n : Nat) : ∀ k, (b7 n k).length = n := by
 induction n with
 | zero => intro k; rfl
 | succ n ih => intro k; simp [b7, ih]
theorem gK (n : Nat) : ∀ k, 0 ≤ k → k + (n : Int) ≤ 4611686018427387904 → cI n k = k + (n : Int) := by
 induction n with
 | zero => intro k h1 h2; simp [cI]
 | succ n ih =>
  intro k h1 h2
  have e1 : wrap64 (k + 1) = k + 1 := b5 (by omega) (by omega)
  rw [cI, e1, ih (k + 1) (by omega) (by omega)]
  omega
theorem pE (d : Nat) : ∀ (done rest : List Int) (c : Int), rest.length = d → done.length + d ≤ 1048576 →
  Ev (fun k => cQ k (done ++ rest) c (done.length : Int)) (cI d c, done ++ b7 d c) := by
 induction d with
 | zero =>
  intro done rest c h0 h1
  refine Ev.step (fun k => by rw [cQ]) ?_
  have : rest = [] := List.eq_nil_of_length_eq_zero h0
  subst this
  refine Ev.neg (by simp) ?_
  exact Ev.now _
 | succ d ih =>
  intro done rest c h0 h1
  obtain ⟨x, t, rfl⟩ : ∃ x t, rest = x :: t := by
   cases rest with
   | nil => simp at h0
   | cons x t => exact ⟨x, t, rfl⟩
  have h2 : t.length = d := by simpa using h0
  refine Ev.step (fun k => by rw [cQ]) ?_
  refine Ev.pos (by simp; omega) (Ev.pos (by omega) ?_)
  have e : (done ++ x :: t).set ((done.length : Int)).toNat c = (done ++ [c]) ++ t := by
   rw [Int.toNat_natCast]
   simp
  have hw : wrap64 ((done.length : Int) + 1) = ((done ++ [c]).length : Int) := by
   rw [List.length_append, List.length_singleton]
   exact aY (n := done.length + 1) (by omega) (by omega)
  rw [e, hw]
  have := ih (done ++ [c]) t (wrap64 (c + 1)) h2 (by rw [List.length_append, List.length_singleton]; omega)
  simpa only [b7, cI, List.append_assoc, List.singleton_append] using this
theorem lF (l : List Int) (c : Int) (hl : l.length ≤ 1048576) : Ev (fun k => dx k l c) (cI l.length c, b7 l.length c) := by
 unfold dx
 have := pE l.length [] l c rfl (by simpa using hl)
 simpa only [List.nil_append, List.length_nil, Int.ofNat_eq_natCast, Int.natCast_zero] using this
theorem rb (d : Nat) : ∀ (done : List Int) (c : Int), done.length + d ≤ 1048576 →
  Ev (fun k => ea k (done ++ b7 d c) c (done.length : Int)) (cI d c) := by
 induction d with
 | zero =>
  intro done c h1
  refine Ev.step (fun k => by rw [ea]) ?_
  refine Ev.neg (by simp [b7]) ?_
  exact Ev.now _
 | succ d ih =>
  intro done c h1
  refine Ev.step (fun k => by rw [ea]) ?_
  have hlen : (done ++ b7 (d + 1) c).length = done.length + (d + 1) := by rw [List.length_append, oF]
  refine Ev.pos (by rw [hlen]; omega) (Ev.pos (by omega) ?_)
  have hr : rd (done ++ b7 (d + 1) c) (done.length : Int) = c := by
   rw [bl _ _ (by rw [hlen]; omega)]
   simp [b7]
  refine Ev.pos hr ?_
  have hw : wrap64 ((done.length : Int) + 1) = ((done ++ [c]).length : Int) := by
   rw [List.length_append, List.length_singleton]
   exact aY (n := done.length + 1) (by omega) (by omega)
  rw [hw]
  have := ih (done ++ [c]) (wrap64 (c + 1)) (by rw [List.length_append, List.length_singleton]; omega)
  simpa only [b7, cI, List.append_assoc, List.singleton_append] using this
theorem rc (n : Nat) (c : Int) (hn : n ≤ 1048576) : Ev (fun k => gu k (b7 n c) c) (cI n c) := by
 unfold gu
 have := rb n [] c (by simpa using hn)
 simpa only [List.nil_append, List.length_nil, Int.ofNat_eq_natCast, Int.natCast_zero] using this
theorem oE (n : Nat) : ∀ k, cz n k = b7 n k := by
 induction n with
 | zero => intro k; rfl
 | succ n ih => intro k; simp only [cz, b7, ih]
theorem jQ (n : Nat) : ∀ k, cH n k = cI n k := by
 induction n with
 | zero => intro k; rfl
 | succ n ih => intro k; simp only [cH, cI, ih]
theorem mq (n : Nat) (k : Int) (hn : n ≤ 1048576) (h0 : 0 ≤ k) (h1 : k ≤ 2305843009213693952) : ¬ cI n k < 0 := by rw [gK n k h0 (by omega)]; omega
theorem pC (l : List (List Int)) : ∀ (k : Int), (∀ s ∈ l, s.length ≤ 1048576) → 0 ≤ k → k + 1048576 * (l.length : Int) ≤ 2305843009213693952 → 0 ≤ (bG l k).1 ∧ (bG l k).1 ≤ k + 1048576 * (l.length : Int) := by
 induction l with
 | nil => intro k _ h0 h1; simp only [bG, List.length_nil]; omega
 | cons s t ih =>
  intro k hs h0 h1
  have h2 := hs s (.head _)
  rw [List.length_cons] at h1 ⊢
  have e1 : cH s.length k = k + (s.length : Int) := by rw [jQ, gK s.length k h0 (by omega)]
  simp only [bG, e1]
  have := ih (k + (s.length : Int)) (fun q hq => hs q (.tail _ hq)) (by omega) (by omega)
  omega
theorem pD (l : List (List Int)) (k : Int) : gq l k = some ((bG l k).1, (bG l k).2) := rfl
theorem pA (l : List (List Int)) (h0 : l.length ≤ 1048576) (h : ∀ s ∈ l, s.length ≤ 1048576) : ¬ (bG l 1).1 < 0 := by
 have h1 := pC l 1 h (by omega) (by omega)
 omega
theorem pH (a : Int) (l : List S69) (h : l.length ≤ 1048576) : ∃ k b, gr a l 1 = some (k, b) ∧ ¬ k < 0 ∧ k ≤ 2251799813685248 := ⟨_, _, pI a l 1, pJ l h, by rw [lG l 1 (by omega) (by omega)]; omega⟩
theorem pG (l : List Int) (c : Int) (h : l.length ≤ 1048576) (hc : 0 ≤ c ∧ c ≤ 2251799813685248) : ∃ k b n, dx n l c = some (k, b) ∧ ¬ k < 0 ∧ k ≤ 2305843009213693952 := by
 obtain ⟨n, hn⟩ := Ev.rounds (lF l c h)
 exact ⟨_, _, n, hn, mq _ _ h hc.1 (by omega), by rw [gK l.length c hc.1 (by omega)]; omega⟩
theorem pF (l : List Int) (c : Int) (h : l.length ≤ 1048576) (hc : 0 ≤ c ∧ c ≤ 2305843009213693952) : ∃ k b n, dx n l c = some (k, b) ∧ ¬ k < 0 ∧ k ≤ 4611686018427387904 := by
 obtain ⟨n, hn⟩ := Ev.rounds (lF l c h)
 exact ⟨_, _, n, hn, mq _ _ h hc.1 (by omega), by rw [gK l.length c hc.1 (by omega)]; omega⟩
theorem q8 (done : List (List Int)) : ∀ (t : List (List Int)) (k : Int), (∀ s ∈ t, s.length ≤ 1048576) → 0 ≤ k → k + 1048576 * (t.length : Int) ≤ 2305843009213693952 → done.length + t.length ≤ 1048576 → Ev (fun n => d9 n (done ++ (bG t k).2) k (done.length : Int)) (bG t k).1 := by
 intro t
 induction t generalizing done with
 | nil =>
  intro k _ h0 h1 h2
  refine Ev.step (fun n => by rw [d9]) (Ev.neg (by simp [bG]) ?_)
  exact Ev.now _
 | cons s t ih =>
  intro k hs h0 h1 h2
  have h3 := hs s (.head _)
  rw [List.length_cons] at h1 h2
  have e1 : cH s.length k = k + (s.length : Int) := by rw [jQ, gK s.length k h0 (by omega)]
  simp only [bG, e1]
  have hlen : done.length < (done ++ cz s.length k :: (bG t (k + (s.length : Int))).2).length := by simp
  refine Ev.step (fun n => by rw [d9]) (Ev.pos (by omega) (Ev.pos (by omega) ?_))
  rw [bV _ done.length hlen, List.getElem_append_right (au _)]
  simp only [Nat.sub_self, List.getElem_cons_zero]
  have hh := rc s.length k h3
  rw [← oE, ← jQ, e1] at hh
  refine Ev.bind hh (Ev.neg (by omega) ?_)
  have := ih (done ++ [cz s.length k]) (k + (s.length : Int)) (fun q hq => hs q (.tail _ hq)) (by omega) (by omega) (by simp; omega)
  rw [List.append_assoc, List.singleton_append] at this
  have ew : wrap64 ((done.length : Int) + 1) = ((done ++ [cz s.length k]).length : Int) := by
   rw [List.length_append, List.length_singleton]; unfold wrap64; omega
  rw [ew]
  exact this
theorem ra (t : List (List Int)) (h : ∀ s ∈ t, s.length ≤ 1048576) (hl : t.length ≤ 1048576) : Ev (fun n => fx n (bG t 1).2 1) (bG t 1).1 := by
 have := q8 [] t 1 h (by omega) (by omega) (by simpa using hl)
 simpa [fx] using this
theorem pB (l : List (List Int)) (h : l.length ≤ 1048576 ∧ ∀ s ∈ l, s.length ≤ 1048576) : ∃ k b, gq l 1 = some (k, b) ∧ ∃ m, fx m b 1 = some k ∧ ¬ k < 0 := by
 obtain ⟨m, hm⟩ := Ev.rounds (ra l h.2 h.1)
 exact ⟨_, _, pD l 1, m, hm, pA l h.1 h.2⟩
def iP (a : Int) (e : List S69) (k0 lo hi kind : Int) : List (List Int) × List S69 × Bool :=
 if (bQ a e && (decide (0 ≤ k0) && decide (k0 ≤ 8))) = true then (bh a.toNat e lo hi, bg (cm e kind) 0 (bh a.toNat e lo hi), true) else ([], [], false)
theorem p7 (n : Nat) (hn : n ≤ 8) (e : List S69) (he : e.length ≤ 1048576) (lo hi kind : Int) : Ev (fun k => eZ k (n : Int) e kind (bh n e lo hi)) (bh n e lo hi, bg (cm e kind) 0 (bh n e lo hi)) := by
 have h2 := jN hn e lo hi
 exact qa _ e kind _ _ (by omega) fun x hx y hy => nx _ e he kind x y (by have := gm (gJ hn hx); omega) (by have := gm (gJ hn hy); omega)
theorem qA (n : Nat) (hn : n ≤ 8) (e : List S69) (lo hi kind : Int) (f : Nat → List Int → List Int → Option Bool) (h : ∀ x y, SetN 8 x → SetN 8 y → Ev (fun k => f k x y) (cm e kind x y)) : Ev (fun k => fj (iI (f k) (cm e kind) (bh n e lo hi)) (cm e kind) (bh n e lo hi)) (bh n e lo hi, bg (cm e kind) 0 (bh n e lo hi), true) := by
 have h2 := jN hn e lo hi
 exact oa f _ _ (by omega) (fun x hx y hy => h x y (gJ hn hx) (gJ hn hy)) (rq hn e lo hi)
theorem kz (e : List S69) : cm e 0 = cN e := by funext x y; unfold cm; rw [if_neg (by decide), if_neg (by decide)]
theorem qS (a : Int) (e : List S69) (k0 : Int) (he : e.length ≤ 1048576) : Ev (fun k => gD k a e k0) (iP a e k0 k0 k0 0) := by
 unfold gD iP
 refine Ev.bind (qF a e k0 he) ?_
 unfold ir
 by_cases c : (bQ a e && (decide (0 ≤ k0) && decide (k0 ≤ 8))) = true
 · rw [if_pos c, if_pos c]
   have hg := ((Bool.and_eq_true _ _).mp c).1
   have h1 := d7 hg
   obtain ⟨n, rfl⟩ := Int.eq_ofNat_of_zero_le h1.1
   refine Ev.pos rfl ?_
   rw [Int.toNat_natCast]
   have := qA n (by omega) e k0 k0 0 (fun k => em k (n : Int) e) (fun x y hx hy => by rw [kz]; exact om (n : Int) e he (fun s hs => (h1.2.2 s hs).2.1) hx hy)
   rw [kz] at this ⊢
   exact this
 · rw [if_neg c, if_neg c]
   exact Ev.neg (by decide) (Ev.now _)
theorem rl (n : Int) (l : List S69) : ∀ p, (∀ e ∈ l, 0 ≤ e.f0 ∧ e.f0 < e.f1 ∧ e.f1 < n) → l.Pairwise (fun a b => bF a b = true) → (∀ q, p = some q → ∀ s ∈ l, bF q s = true) → bL n p l = true := by
 induction l with
 | nil => intro p _ _ _; rfl
 | cons x t ih =>
  intro p h1 h2 h3
  have h4 := h1 x (List.mem_cons_self ..)
  rw [List.pairwise_cons] at h2
  have h5 := ih (some x) (fun e he => h1 e (List.mem_cons_of_mem _ he)) h2.2 (fun q hq s hs => by injection hq with hq; subst hq; exact h2.1 s hs)
  simp only [bL, Bool.and_eq_true, decide_eq_true_eq]
  refine ⟨⟨⟨h4.1, h4.2.1⟩, h4.2.2⟩, ?_, h5⟩
  cases p with
  | none => rfl
  | some q => exact h3 q rfl x (List.mem_cons_self ..)
theorem jd (st : List Int → List Int → Bool) (a : List Int) (i : Nat) (t : List (List Int)) : ∀ k, ∀ e ∈ bY st a i k t, e.f0 = (i : Int) ∧ (k : Int) ≤ e.f1 ∧ e.f1 < ((k + t.length : Nat) : Int) := by
 induction t with
 | nil => intro k e he; cases he
 | cons b t ih =>
  intro k e he
  simp only [bY, List.mem_append] at he
  rcases he with he | he
  · split at he
    · rw [List.mem_singleton] at he
      subst he
      exact ⟨rfl, Int.le_refl _, by rw [List.length_cons]; show (k : Int) < _; omega⟩
    · cases he
  · have := ih (k + 1) e he
    rw [List.length_cons]
    exact ⟨this.1, by omega, by omega⟩
theorem oM (st : List Int → List Int → Bool) (a : List Int) (i : Nat) (t : List (List Int)) : ∀ k, (bY st a i k t).Pairwise (fun a b => a.f0 = b.f0 ∧ a.f1 < b.f1) := by
 induction t with
 | nil => intro k; exact .nil
 | cons b t ih =>
  intro k
  simp only [bY]
  rw [List.pairwise_append]
  refine ⟨by split <;> simp, ih (k + 1), fun x hx y hy => ?_⟩
  have h2 := jd st a i t (k + 1) y hy
  split at hx
  · rw [List.mem_singleton] at hx
    subst hx
    exact ⟨h2.1.symm, by show (k : Int) < _; omega⟩
  · cases hx
theorem mK (st : List Int → List Int → Bool) (t : List (List Int)) : ∀ i, ∀ e ∈ bg st i t, (i : Int) ≤ e.f0 ∧ e.f0 < e.f1 ∧ e.f1 < ((i + t.length : Nat) : Int) := by
 induction t with
 | nil => intro i e he; cases he
 | cons b t ih =>
  intro i e he
  simp only [bg, List.mem_append] at he
  rw [List.length_cons]
  rcases he with he | he
  · have := jd st b i t (i + 1) e he
    exact ⟨by omega, by omega, by omega⟩
  · have := ih (i + 1) e he
    exact ⟨by omega, by omega, by omega⟩
theorem te (st : List Int → List Int → Bool) (t : List (List Int)) : ∀ i, (bg st i t).Pairwise (fun a b => a.f0 < b.f0 ∨ (a.f0 = b.f0 ∧ a.f1 < b.f1)) := by
 induction t with
 | nil => intro i; exact .nil
 | cons b t ih =>
  intro i
  simp only [bg]
  rw [List.pairwise_append]
  refine ⟨(oM st b i t (i + 1)).imp fun h => .inr h, ih (i + 1), fun x hx y hy => .inl ?_⟩
  have h1 := jd st b i t (i + 1) x hx
  have h2 := mK st t (i + 1) y hy
  omega
theorem tf (st : List Int → List Int → Bool) (t : List (List Int)) : bL (t.length : Int) none (bg st 0 t) = true := by
 refine rl _ _ _ (fun e he => ?_) ((te st t 0).imp fun {a b} h => ?_) (fun q hq => by cases hq)
 · have := mK st t 0 e he
   exact ⟨by omega, by omega, by omega⟩
 · unfold bF
   rcases h with h | h
   · simp [h]
   · simp [h.1, h.2]
theorem nk {n : Nat} (hn : n ≤ 8) (e : List S69) (lo hi kind : Int) : gj (bh n e lo hi) (bg (cm e kind) 0 (bh n e lo hi)) := by
 have h2 := jN hn e lo hi
 have h3 := j7 (cm e kind) (bh n e lo hi) 0
 have h4 : (bh n e lo hi).length * (bh n e lo hi).length ≤ 256 * 256 := Nat.mul_le_mul h2 h2
 exact ⟨by omega, fun s hs => by have := gm (gJ hn hs); omega, by omega⟩
section
variable {z : List (List Int)} (hn : z.length ≤ 1048576) (hr : ∀ i, (af z i).length ≤ 1048576) {D : List Int} (hD : D.length = z.length)
include hn hr hD
theorem nb (i j : Int) (hi : 0 ≤ i ∧ i < (z.length : Int)) (hz : ∀ q ∈ af z i, 0 ≤ q ∧ q < (z.length : Int)) (hDi : 0 < rd D i ∧ rd D i ≤ 1048577) (acc : List Int) (ha : acc.length ≤ 4000000) (d : Nat) : ∀ (m : Nat), (af z i).length - m = d → m ≤ (af z i).length → (∃ q ∈ (af z i).drop m, rd D q = rd D i - 1) →
  ∃ q, q ∈ af z i ∧ rd D q = rd D i - 1 ∧
    (∀ R, Ev (fun k => cW k q j z D (acc ++ [q])) R → Ev (fun k => dX k i j z D acc (m : Int)) R) ∧
    (∀ R, Ev (fun k => cF k q j z D (acc ++ [q])) R → Ev (fun k => el k i j z D acc (af z i) ((af z i).length : Int) (m : Int)) R) := by
 have hrl := hr i
 have _hu := hn
 have hw : wrap64 (rd D i - 1) = rd D i - 1 := b5 (by omega) (by omega)
 have HW := Aside0.mk hw
 clear hw
 induction d with
 | zero =>
  intro m h0 h1 h2
  obtain ⟨q, hq, _⟩ := h2
  rw [List.drop_eq_nil_of_le (by omega)] at hq
  cases hq
 | succ d ih =>
  intro m h0 h1 h2
  have hm : m < (af z i).length := by omega
  have hq := hz (af z i)[m] (List.getElem_mem hm)
  by_cases c : rd D (af z i)[m] = rd D i - 1
  · refine ⟨(af z i)[m], List.getElem_mem hm, c, fun R hR => ?_, fun R hR => ?_⟩
    · refine Ev.step (fun k => by rw [dX]) ?_
      refine Ev.pos hi.1 ?_
      refine Ev.pos hi.2 ?_
      refine Ev.pos (by omega) ?_
      refine Ev.pos (by omega) ?_
      rw [bl _ m hm]
      refine Ev.pos hq.1 ?_
      refine Ev.pos (by omega) ?_
      refine Ev.pos (by omega) ?_
      rw [HW.out]
      refine Ev.pos c ?_
      refine Ev.pos (by omega) ?_
      exact hR
    · refine Ev.step (fun k => by rw [el]) ?_
      refine Ev.pos (by omega) ?_
      refine Ev.pos (by omega) ?_
      refine Ev.pos (by omega) ?_
      rw [bl _ m hm]
      refine Ev.pos hq.1 ?_
      refine Ev.pos (by omega) ?_
      refine Ev.pos hi.1 ?_
      refine Ev.pos (by omega) ?_
      rw [HW.out]
      refine Ev.pos c ?_
      refine Ev.pos (by omega) ?_
      exact hR
  · obtain ⟨q, q1, q2, q3, q4⟩ := ih (m + 1) (by omega) (by omega) (by
      obtain ⟨q, hq', hq2⟩ := h2
      rw [List.drop_eq_getElem_cons hm] at hq'
      rcases List.mem_cons.1 hq' with rfl | hq'
      · exact absurd hq2 c
      · exact ⟨q, hq', hq2⟩)
    rw [← aY hm (by omega)] at q3 q4
    refine ⟨q, q1, q2, fun R hR => ?_, fun R hR => ?_⟩
    · have e3 := q3 R hR
      refine Ev.step (fun k => by rw [dX]) ?_
      refine Ev.pos hi.1 ?_
      refine Ev.pos hi.2 ?_
      refine Ev.pos (by omega) ?_
      refine Ev.pos (by omega) ?_
      rw [bl _ m hm]
      refine Ev.pos hq.1 ?_
      refine Ev.pos (by omega) ?_
      refine Ev.pos (by omega) ?_
      rw [HW.out]
      refine Ev.neg c ?_
      exact e3
    · have e4 := q4 R hR
      refine Ev.step (fun k => by rw [el]) ?_
      refine Ev.pos (by omega) ?_
      refine Ev.pos (by omega) ?_
      refine Ev.pos (by omega) ?_
      rw [bl _ m hm]
      refine Ev.pos hq.1 ?_
      refine Ev.pos (by omega) ?_
      refine Ev.pos hi.1 ?_
      refine Ev.pos (by omega) ?_
      rw [HW.out]
      refine Ev.neg c ?_
      exact e4
theorem nc (hz : fq z) (hs : iT z) (j : Int) (hb : ∀ k, rd D k ≤ 1048577) (h0 : rd D j = 0) (hE : ∀ k, 0 ≤ k → k < (z.length : Int) → 0 ≤ rd D k → k = j ∨ ∃ p, 0 ≤ p ∧ p < (z.length : Int) ∧ k ∈ af z p ∧ 0 ≤ rd D p ∧ rd D k = rd D p + 1) (t : Nat) :
  ∀ (i : Int) (acc : List Int), 0 ≤ i → i < (z.length : Int) → rd D i = (t : Int) → acc.length + t ≤ 2000000 → 0 < acc.length → (∀ x ∈ acc, 0 ≤ x ∧ x < (z.length : Int)) → ∃ R : List Int, R.length = acc.length + t ∧ Ev (fun k => cW k i j z D acc) R ∧ Ev (fun k => cF k i j z D acc) (R, true) ∧ ∀ x ∈ R, 0 ≤ x ∧ x < (z.length : Int) := by
 induction t with
 | zero =>
  intro i acc hi0 hi1 hd ha hp hin
  have hij : i = j := by
    rcases hE i hi0 hi1 (by omega) with e | ⟨p, p0, p1, p2, p3, p4⟩
    · exact e
    · omega
  refine ⟨acc, rfl, ?_, ?_, hin⟩
  · refine Ev.step (fun k => by rw [cW]) ?_
    exact Ev.pos hij (Ev.now _)
  · refine Ev.step (fun k => by rw [cF]) ?_
    exact Ev.pos hij (Ev.now _)
 | succ t ih =>
  intro i acc hi0 hi1 hd ha hp hin
  have hij : i ≠ j := fun e => by rw [e, h0] at hd; omega
  obtain ⟨q, q1, q2, q3, q4⟩ := nb hn hr hD i j ⟨hi0, hi1⟩ (hz i hi0 hi1) ⟨by omega, hb i⟩ acc (by omega) ((af z i).length - 0) 0 rfl (Nat.zero_le _) (by
    rw [List.drop_zero]
    rcases hE i hi0 hi1 (by omega) with e | ⟨p, p0, p1, p2, p3, p4⟩
    · exact absurd e hij
    · exact ⟨p, hs p i p0 p1 hi0 hi1 p2, by omega⟩)
  simp only [Int.natCast_zero] at q3 q4
  have hq := hz i hi0 hi1 q q1
  obtain ⟨R, r0, r1, r2, r3⟩ := ih q (acc ++ [q]) hq.1 hq.2 (by omega) (by rw [List.length_append, List.length_singleton]; omega) (by rw [List.length_append, List.length_singleton]; omega) (fun x hx => by
    rcases List.mem_append.1 hx with h | h
    · exact hin x h
    · rw [List.mem_singleton] at h
      exact h ▸ hq)
  refine ⟨R, by rw [r0, List.length_append, List.length_singleton]; omega, ?_, ?_, r3⟩
  · have e3 := q3 R r1
    refine Ev.step (fun k => by rw [cW]) ?_
    refine Ev.neg hij ?_
    exact e3
  · have e4 := q4 (R, true) r2
    refine Ev.step (fun k => by rw [cF]) ?_
    refine Ev.neg hij ?_
    refine Ev.pos hi0 ?_
    refine Ev.pos hi1 ?_
    exact e4
end
theorem oJ (l : List (List Int)) (h : LexS l) (q : Nat) (hq : q < l.length) : ch (fun i => bH (l.getD i []) l[q]) (l.length + 1) 0 l.length = q := by
 refine sQ _ l.length q (fun i hi => ?_) (fun i hi hn => ?_) _ _ _ (Nat.zero_le _) (by omega) (au _) (by omega)
 · rw [jS, List.getD_eq_getElem?_getD, List.getElem?_eq_getElem (by omega), Option.getD_some]
   exact List.pairwise_iff_getElem.1 h i q (by omega) hq hi
 · rw [jS, List.getD_eq_getElem?_getD, List.getElem?_eq_getElem hn, Option.getD_some]
   by_cases c : i = q
   · subst c
     rw [gT]
     decide
   · rw [jW (List.pairwise_iff_getElem.1 h q i hq hn (by omega))]
     decide
section
variable (l : List (List Int)) (e : List S69) (hm : gj l e)
include hm
theorem lU (s : List Int) (d : Nat) : ∀ (m : Nat), l.length - m = d → m ≤ l.length →
  ∃ r : Int, Ev (fun k => dK k s (m : Int) l e) r ∧ ((r = -1 ∧ s ∉ l.drop m) ∨ ∃ q : Nat, ∃ hq : q < l.length, r = (q : Int) ∧ l[q] = s) := by
 have hl := hm.1
 induction d with
 | zero =>
  intro m h0 h1
  refine ⟨-1, ?_, .inl ⟨rfl, ?_⟩⟩
  · refine Ev.step (fun k => by rw [dK]) ?_
    exact Ev.neg (by omega) (Ev.now _)
  · rw [List.drop_eq_nil_of_le (by omega)]
    simp
 | succ d ih =>
  intro m h0 h1
  have hmm : m < l.length := by omega
  by_cases c : l[m] = s
  · refine ⟨(m : Int), ?_, .inr ⟨m, hmm, rfl, c⟩⟩
    refine Ev.step (fun k => by rw [dK]) ?_
    refine Ev.pos (by omega) (Ev.pos (by omega) ?_)
    rw [bV l m hmm]
    exact Ev.bind (hU _ _ (hm.2.1 _ (List.getElem_mem hmm))) (Ev.pos (ag c) (Ev.now _))
  · obtain ⟨r, hr, hd⟩ := ih (m + 1) (by omega) (by omega)
    refine ⟨r, ?_, ?_⟩
    · refine Ev.step (fun k => by rw [dK]) ?_
      refine Ev.pos (by omega) (Ev.pos (by omega) ?_)
      rw [bV l m hmm, aY hmm (by omega)]
      exact Ev.bind (hU _ _ (hm.2.1 _ (List.getElem_mem hmm))) (Ev.neg (by rw [ar c]; decide) hr)
    · rcases hd with ⟨hd, hn⟩ | hd
      · refine .inl ⟨hd, ?_⟩
        rw [List.drop_eq_getElem_cons hmm, List.mem_cons]
        rintro (hh | hh)
        · exact c hh.symm
        · exact hn hh
      · exact .inr hd
theorem jn (hx : LexS l) (s : List Int) (hs : s ∈ l) : ∃ q : Nat, ∃ hq : q < l.length, l[q] = s ∧ Ev (fun k => dL k l e s) (q : Int) ∧ dR l e s = some ((q : Int), true) := by
 have hl := hm.1
 obtain ⟨r, hr, hd⟩ := lU l e hm s l.length 0 (by omega) (Nat.zero_le _)
 have hr' : Ev (fun k => dL k l e s) r := hr
 rcases hd with ⟨hd, hn⟩ | ⟨q, hq, hd, h2⟩
 · exact absurd hs (by rw [List.drop_zero] at hn; exact hn)
 · subst h2
   refine ⟨q, hq, rfl, hd ▸ hr', ?_⟩
   have hp : eK l l[q] = q := oJ l hx q hq
   unfold dR
   rw [if_pos (by omega), hp, ag hq, Bool.true_and, List.getD_eq_getElem?_getD, List.getElem?_eq_getElem hq, Option.getD_some, (mB _ _).2 rfl]
   rfl
theorem jm (s : List Int) (hs : s ∉ l) : Ev (fun k => dL k l e s) (-1) ∧ ∃ r, dR l e s = some (r, false) := by
 have hl := hm.1
 obtain ⟨r, hr, hd⟩ := lU l e hm s l.length 0 (by omega) (Nat.zero_le _)
 have hr' : Ev (fun k => dL k l e s) r := hr
 rcases hd with ⟨hd, hn⟩ | ⟨q, hq, hd, h2⟩
 · refine ⟨hd ▸ hr', (eK l s : Int), ?_⟩
   unfold dR
   rw [if_pos (by omega)]
   congr 2
   by_cases c : eK l s < l.length
   · rw [ag c, Bool.true_and, beq_eq_false_iff_ne]
     intro h
     rw [mB, List.getD_eq_getElem?_getD, List.getElem?_eq_getElem c, Option.getD_some] at h
     exact hs (h ▸ List.getElem_mem c)
   · rw [ar c, Bool.false_and]
 · exact absurd (h2 ▸ List.getElem_mem hq) hs
theorem nf (hg : bL (l.length : Int) none e = true) (i j : Nat) (hi : i < l.length) (hj : j < l.length) : ∃ (R : List Int) (ok : Bool), Ev (fun k => fb k l e (i : Int) (j : Int)) R ∧ Ev (fun k => fG k l e (i : Int) (j : Int)) (R, ok) ∧ ok = decide (0 < R.length) ∧ R.length ≤ 1048576 ∧ ∀ x ∈ R, 0 ≤ x ∧ x < (l.length : Int) := by
 have hlen := jf l e
 have hml := hm.1
 have hok := oU l e hm hg
 have hrow := oT l e hm hg
 obtain ⟨D, e1, e2, e3, e4, e5, e6, e7, e8, e9⟩ := nB hok (by omega) hrow (j : Int) (by omega) (by omega)
 by_cases hd : rd D (i : Int) < 0
 · refine ⟨[], false, ?_, ?_, rfl, Nat.zero_le _, fun x hx => by cases hx⟩
   · unfold fb
     refine Ev.bind (lH l e hm hg) ?_
     refine Ev.bind e2 ?_
     refine Ev.pos (by omega) ?_
     refine Ev.pos (by omega) ?_
     exact Ev.pos hd (Ev.now _)
   · unfold fG
     refine Ev.bind (kY l e hm hg) ?_
     refine Ev.bind e1 ?_
     refine Ev.pos (by omega) ?_
     refine Ev.pos (by omega) ?_
     exact Ev.pos hd (Ev.now _)
 · have hb := e4 (i : Int)
   obtain ⟨R, r0, r1, r2, r3⟩ := nc (z := cA l e) (by omega) hrow e3 hok (oS l e hm hg) (j : Int) (fun k => by have := e4 k; omega) e8 e9 (rd D (i : Int)).toNat (i : Int) [(i : Int)] (by omega) (by omega) (by omega) (by rw [List.length_singleton]; omega) (by simp) (fun x hx => by rw [List.mem_singleton] at hx; subst hx; omega)
   have hRn : 0 < R.length := by rw [r0, List.length_singleton]; omega
   refine ⟨R, true, ?_, ?_, (ag hRn).symm, by rw [r0, List.length_singleton]; omega, fun x hx => by have := r3 x hx; omega⟩
   · unfold fb
     refine Ev.bind (lH l e hm hg) ?_
     refine Ev.bind e2 ?_
     refine Ev.pos (by omega) ?_
     refine Ev.pos (by omega) ?_
     refine Ev.neg hd ?_
     exact r1
   · unfold fG
     refine Ev.bind (kY l e hm hg) ?_
     refine Ev.bind e1 ?_
     refine Ev.pos (by omega) ?_
     refine Ev.pos (by omega) ?_
     refine Ev.neg hd ?_
     exact r2
def eU (x : Int) : List Int := l.getD x.toNat []
theorem sH (x : List Int) (h : x.length ≤ 1048576) : gf x = some x := by
 have _hu := hm
 unfold gf
 rw [if_pos (by omega)]
theorem j5 (x : Int) : (eU l x).length ≤ 1048576 := by
 unfold eU
 rw [List.getD_eq_getElem?_getD]
 cases h : l[x.toNat]? with
 | none => exact Nat.zero_le _
 | some s => exact hm.2.1 s (List.mem_of_getElem? h)
section
variable (R : List Int) (hR : R.length ≤ 1048576) (hx : ∀ x ∈ R, 0 ≤ x ∧ x < (l.length : Int))
include hR hx
theorem nC (d : Nat) : ∀ (m : Nat) (acc : List (List Int)), R.length - m = d → m ≤ R.length → acc.length ≤ m → Ev (fun k => dH k acc R (m : Int) l e) (acc ++ (R.drop m).map (eU l)) := by
 induction d with
 | zero =>
  intro m acc h0 h1 h2
  rw [List.drop_eq_nil_of_le (by omega), List.map_nil, List.append_nil]
  exact Ev.step (fun k => by rw [dH]) (Ev.neg (by omega) (Ev.now _))
 | succ d ih =>
  intro m acc h0 h1 h2
  have hmm : m < R.length := by omega
  have h3 := hx R[m] (List.getElem_mem _)
  refine Ev.step (fun k => by rw [dH]) (Ev.pos (by omega) (Ev.pos (by omega) ?_))
  rw [bl R m hmm, aY hmm (by omega), List.drop_eq_getElem_cons hmm, List.map_cons]
  refine Ev.pos h3.1 (Ev.pos h3.2 ?_)
  refine Ev.bindo (ij _ (j5 l e hm R[m])) ?_
  refine Ev.pos (by omega) ?_
  have := ih (m + 1) (acc ++ [eU l R[m]]) (by omega) (by omega) (by rw [List.length_append, List.length_singleton]; omega)
  rw [List.append_assoc] at this
  exact this
theorem qz (ok : Bool) (d : Nat) : ∀ (m : Nat) (acc : List (List Int)), R.length - m = d → m ≤ R.length → acc.length ≤ m → Ev (fun k => dB k ok acc R (R.length : Int) (m : Int) l e) (acc ++ (R.drop m).map (eU l), ok) := by
 induction d with
 | zero =>
  intro m acc h0 h1 h2
  rw [List.drop_eq_nil_of_le (by omega), List.map_nil, List.append_nil]
  exact Ev.step (fun k => by rw [dB]) (Ev.neg (by omega) (Ev.now _))
 | succ d ih =>
  intro m acc h0 h1 h2
  have hmm : m < R.length := by omega
  have h3 := hx R[m] (List.getElem_mem _)
  refine Ev.step (fun k => by rw [dB]) (Ev.pos (by omega) (Ev.pos (by omega) (Ev.pos (by omega) ?_)))
  rw [bl R m hmm, aY hmm (by omega), List.drop_eq_getElem_cons hmm, List.map_cons]
  refine Ev.pos h3.1 (Ev.pos h3.2 ?_)
  refine Ev.bindo (sH l e hm _ (j5 l e hm R[m])) ?_
  refine Ev.pos (by omega) ?_
  have := ih (m + 1) (acc ++ [eU l R[m]]) (by omega) (by omega) (by rw [List.length_append, List.length_singleton]; omega)
  rw [List.append_assoc] at this
  exact this
end
theorem ng (hx : LexS l) (hg : bL (l.length : Int) none e = true) (a b : List Int) : ∃ (Q : List (List Int)) (ok : Bool), Ev (fun k => dU k l e a b) Q ∧ Ev (fun k => ek k l e a b) (Q, ok) ∧ ok = decide ((Q.length : Int) > 0) ∧ Q.length ≤ 1048576 ∧ ∀ s ∈ Q, s.length ≤ 1048576 := by
 by_cases ca : a ∈ l
 · obtain ⟨i, hi, _, i1, i2⟩ := jn l e hm hx a ca
   by_cases cb : b ∈ l
   · obtain ⟨j, hj, _, j1, j2⟩ := jn l e hm hx b cb
     obtain ⟨R, ok, r1, r2, r3, r4, r5⟩ := nf l e hm hg i j hi hj
     refine ⟨R.map (eU l), ok, ?_, ?_, ?_, by rw [List.length_map]; exact r4, fun s hs => by obtain ⟨x, _, rfl⟩ := List.mem_map.1 hs; exact j5 l e hm x⟩
     · unfold dU
       refine Ev.bind i1 ?_
       refine Ev.bind j1 ?_
       refine Ev.bindo rfl ?_
       refine Ev.neg (by omega) ?_
       refine Ev.step (fun k => by rw [di]) ?_
       refine Ev.neg (by first | (simp; done) | (simp; omega)) ?_
       refine Ev.bind r1 ?_
       have := nC l e hm R r4 r5 _ 0 [] rfl (Nat.zero_le _) (Nat.zero_le _)
       simpa only [List.nil_append, List.drop_zero, Int.natCast_zero] using this
     · unfold ek
       refine Ev.bindo i2 ?_
       refine Ev.bindo j2 ?_
       refine Ev.pos rfl ?_
       refine Ev.step (fun k => by rw [ej]) ?_
       refine Ev.neg (by simp) ?_
       refine Ev.bind r2 ?_
       have := qz l e hm R r4 r5 ok _ 0 [] rfl (Nat.zero_le _) (Nat.zero_le _)
       simpa only [List.nil_append, List.drop_zero, Int.natCast_zero] using this
     · rw [r3, List.length_map, decide_eq_decide]
       omega
   · obtain ⟨j1, r, j2⟩ := jm l e hm b cb
     refine ⟨[], false, ?_, ?_, rfl, Nat.zero_le _, fun s hs => by cases hs⟩
     · unfold dU
       refine Ev.bind i1 ?_
       refine Ev.bind j1 ?_
       refine Ev.bindo rfl ?_
       refine Ev.neg (by omega) ?_
       refine Ev.step (fun k => by rw [di]) ?_
       exact Ev.pos (by decide) (Ev.now _)
     · unfold ek
       refine Ev.bindo i2 ?_
       refine Ev.bindo j2 ?_
       refine Ev.pos rfl ?_
       refine Ev.step (fun k => by rw [ej]) ?_
       exact Ev.pos rfl (Ev.now _)
 · obtain ⟨i1, r, i2⟩ := jm l e hm a ca
   have hb : (∃ x, Ev (fun k => dL k l e b) x) ∧ ∃ y, dR l e b = some y := by
     by_cases cb : b ∈ l
     · obtain ⟨j, hj, _, j1, j2⟩ := jn l e hm hx b cb
       exact ⟨⟨_, j1⟩, _, j2⟩
     · obtain ⟨j1, r, j2⟩ := jm l e hm b cb
       exact ⟨⟨_, j1⟩, _, j2⟩
   obtain ⟨⟨x, j1⟩, y, j2⟩ := hb
   refine ⟨[], false, ?_, ?_, rfl, Nat.zero_le _, fun s hs => by cases hs⟩
   · unfold dU
     refine Ev.bind i1 ?_
     refine Ev.bind j1 ?_
     refine Ev.bindo rfl ?_
     refine Ev.pos (by decide) ?_
     refine Ev.step (fun k => by rw [di]) ?_
     exact Ev.pos rfl (Ev.now _)
   · unfold ek
     refine Ev.bindo i2 ?_
     refine Ev.bindo j2 ?_
     refine Ev.neg (by simp) ?_
     refine Ev.step (fun k => by rw [ej]) ?_
     exact Ev.pos rfl (Ev.now _)
end
def dr (a : Int) (e : List S69) (l : List Int) : Bool := bA 0 (wrap64 (a - 1)) none l && de e l
def eX (a : Int) (e : List S69) (x y : List Int) : Bool := bQ a e && (dr a e x && dr a e y)
theorem mi (a : Int) (e : List S69) (l : List Int) (he : e.length ≤ 1048576) (hl : l.length ≤ 1048576) (hg : bQ a e = true) : Ev (fun k => dW k a e l) (dr a e l) := by
 have h1 := d7 hg
 have := lT a e l he hl
 rw [mj e l _ (fun s hs => (h1.2.2 s hs).2.1)] at this
 exact this
theorem oD {n : Nat} {e : List S69} {l : List Int} (hn : n ≤ 8) (h : dr (n : Int) e l = true) : SetN n l ∧ de e l = true := by
 unfold dr at h
 rw [Bool.and_eq_true, b5 (by omega) (by omega)] at h
 exact ⟨SetN.of_ris h.1, h.2⟩
theorem qc (a : Int) (e : List S69) (x y : List Int) (he : e.length ≤ 1048576) (hx : x.length ≤ 1048576) (hy : y.length ≤ 1048576) : Ev (fun k => fY k a e x y) (eX a e x y) := by
 unfold fY g3 eX
 by_cases hg : bQ a e = true
 · rw [hg, Bool.true_and]
   refine Ev.bind (a := dr a e x) ?_ ?_
   · refine Ev.bind (lV a e he) ?_
     refine Ev.pos hg ?_
     exact Ev.bind (mi a e x he hx hg) (Ev.now _)
   · cases c : dr a e x with
     | true => exact Ev.pos rfl (Ev.bind (mi a e y he hy hg) (Ev.now _))
     | false => exact Ev.neg (by decide) (Ev.now _)
 · rw [Bool.eq_false_iff.mpr hg, Bool.false_and]
   refine Ev.bind (a := false) ?_ ?_
   · refine Ev.bind (lV a e he) ?_
     exact Ev.neg hg (Ev.now _)
   · exact Ev.neg (by decide) (Ev.now _)
theorem nh (a : Int) (e : List S69) (x y : List Int) (he : e.length ≤ 1048576) (hx : x.length ≤ 1048576) (hy : y.length ≤ 1048576) : Ev (fun k => gB k a e x y) (eX a e x y) := by
 unfold gB eX
 refine Ev.bind (iy _ e he) ?_
 by_cases hg : bQ a e = true
 · rw [hg, Bool.true_and]
   refine Ev.pos rfl ?_
   refine Ev.bind (a := dr a e x) (lW a e x hx hg) ?_
   cases c : dr a e x with
   | true => exact Ev.pos rfl (Ev.bind (a := dr a e y) (lW a e y hy hg) (Ev.now _))
   | false => exact Ev.neg (by decide) (Ev.now _)
 · rw [Bool.eq_false_iff.mpr hg, Bool.false_and]
   exact Ev.neg (by decide) (Ev.now _)
theorem nj (n : Nat) (hn : n ≤ 8) (e : List S69) (lo hi kind : Int) (x y : List Int) : ∃ (Q : List (List Int)) (ok : Bool), Ev (fun k => dU k (bh n e lo hi) (bg (cm e kind) 0 (bh n e lo hi)) x y) Q ∧ Ev (fun k => ek k (bh n e lo hi) (bg (cm e kind) 0 (bh n e lo hi)) x y) (Q, ok) ∧ ok = decide ((Q.length : Int) > 0) ∧ Q.length ≤ 1048576 ∧ ∀ s ∈ Q, s.length ≤ 1048576 :=
 ng _ _ (nk hn e lo hi kind) (jM hn e lo hi) (tf _ _) x y
theorem ni (Q : List (List Int)) : gX Q = some (Q, decide ((Q.length : Int) > 0)) := rfl
theorem tV (a0_0 : Int) (l0_1 : List S69) (l1 : List Int) (l2 : List Int) (w0_0 : (Lit.int .i64 a0_0).wf = true) (w0_1 : ki l0_1) (w1 : gU l1) (w2 : gU l2) (hn0 : l0_1.length ≤ 1048576) (hl1 : l1.length ≤ 1048576) (hl2 : l2.length ≤ 1048576) : ∃ (q0 : List (List Int)) (q1 : Bool), Ev (fun k => fi k a0_0 l0_1 l1 l2) (q0, q1) ∧ Ev (fun k => fH k a0_0 l0_1 l1 l2) (q0, q1) ∧ (q0.length ≤ 1048576 ∧ ∀ s ∈ q0, s.length ≤ 1048576) := by
 have hs := qc a0_0 l0_1 l1 l2 hn0 hl1 hl2
 have hi := nh a0_0 l0_1 l1 l2 hn0 hl1 hl2
 by_cases c : eX a0_0 l0_1 l1 l2 = true
 · have c' := c
   unfold eX at c'
   rw [Bool.and_eq_true, Bool.and_eq_true] at c'
   obtain ⟨hg, hx, hy⟩ := c'
   have h1 := d7 hg
   obtain ⟨n, rfl⟩ := Int.eq_ofNat_of_zero_le h1.1
   have hn : n ≤ 8 := by omega
   have hlen := (oD hn hx).1.len
   obtain ⟨Q, ok, w1_, w2_, w3_, w4_, w5_⟩ := nj n hn l0_1 (l1.length : Int) (l1.length : Int) 0 l1 l2
   have ht := qS (n : Int) l0_1 (l1.length : Int) hn0
   unfold iP at ht
   rw [if_pos (by rw [hg, Bool.true_and, ag (show (0 : Int) ≤ (l1.length : Int) by omega), ag (show (l1.length : Int) ≤ 8 by omega)]; rfl), Int.toNat_natCast] at ht
   refine ⟨Q, ok, ?_, ?_, w4_, w5_⟩
   · unfold fi
     refine Ev.bind hs ?_
     refine Ev.pos c ?_
     refine Ev.bind (qb n hn l0_1 hn0 hg _ _) ?_
     refine Ev.bind (p7 n hn l0_1 hn0 _ _ _) ?_
     refine Ev.bind w1_ ?_
     refine Ev.bindo (ni Q) ?_
     rw [w3_]
     exact Ev.now _
   · unfold fH
     refine Ev.bind hi ?_
     refine Ev.pos c ?_
     refine Ev.bind ht ?_
     exact Ev.bind w2_ (Ev.now _)
 · refine ⟨[], false, ?_, ?_, Nat.zero_le _, fun s hs => by cases hs⟩
   · unfold fi
     exact Ev.bind hs (Ev.neg c (Ev.now _))
   · unfold fH
     exact Ev.bind hi (Ev.neg c (Ev.now _))
set_option maxHeartbeats 1000000 in
theorem Law_FnExactSlideWalk (a0_0 : Int) (A0_1 : Option Addr) (ca0_1 : Nat) (l0_1 : List (S69)) (A1 : Option Addr) (ca1 : Nat) (l1 : List Int) (A2 : Option Addr) (ca2 : Nat) (l2 : List Int) (w : World) (hr0_1 : Kd.C k69 w A0_1 l0_1.length l0_1) (hc0_1 : l0_1.length ≤ ca0_1) (hr1 : Kd.C (Kd.int .i64) w A1 l1.length l1) (hc1 : l1.length ≤ ca1) (hr2 : Kd.C (Kd.int .i64) w A2 l2.length l2) (hc2 : l2.length ≤ ca2) (w0_0 : (Lit.int .i64 a0_0).wf = true) (w0_1 : ki l0_1) (w1 : gU l1) (w2 : gU l2) :
   Calls Tryz.prog 4 #[.agg #[.int .i64 a0_0, .slice A0_1 l0_1.length ca0_1], .slice A1 l1.length ca1, .slice A2 l2.length ca2] w fun e w' => e = .returned (.bool true) ∧ Below w.heap.size w w' := by
 by_cases c0 : 1048576 < (l1.length : Int)
 · exact pY a0_0 A0_1 ca0_1 l0_1 A1 ca1 l1 A2 ca2 l2 w hr0_1 hc0_1 hr1 hc1 hr2 hc2 c0
 have hl1 : l1.length ≤ 1048576 := by omega
 by_cases c1 : 1048576 < (l2.length : Int)
 · exact pX a0_0 A0_1 ca0_1 l0_1 A1 ca1 l1 A2 ca2 l2 w hr0_1 hc0_1 hr1 hc1 hr2 hc2 c0 c1
 have hl2 : l2.length ≤ 1048576 := by omega
 obtain ⟨t0, h0, m2⟩ := nu a0_0 l0_1 w0_1.1
 by_cases c2 : t0 < 0
 · exact pW a0_0 A0_1 ca0_1 l0_1 A1 ca1 l1 A2 ca2 l2 t0 w hr0_1 hc0_1 hr1 hc1 hr2 hc2 c0 c1 c2 h0
 have hn0 := m2.resolve_left c2
 obtain ⟨q0, q1, es, ei, hb1⟩ := tV a0_0 l0_1 l1 l2 w0_0 w0_1 w1 w2 hn0 hl1 hl2
 obtain ⟨k1, h1⟩ := Ev.rounds (nq a0_0 l0_1 hn0)
 obtain ⟨k2, h2⟩ := Ev.rounds (kx l1 hl1)
 obtain ⟨k3, h3⟩ := Ev.rounds (kx l2 hl2)
 obtain ⟨k4, h4⟩ := Ev.rounds (es)
 obtain ⟨k5, h5⟩ := Ev.rounds (ei)
 obtain ⟨k6, h6⟩ := Ev.rounds (sn q0 hb1.1 hb1.2)
 obtain ⟨k7, h7⟩ := Ev.rounds (sr a0_0 l0_1 hn0)
 obtain ⟨k8, h8⟩ := Ev.rounds (jP l1 hl1)
 obtain ⟨k9, h9⟩ := Ev.rounds (jP l2 hl2)
 obtain ⟨kk0, mk0_0, h10, nkk0, pkk0⟩ := pH a0_0 l0_1 hn0
 obtain ⟨kk1, mk1_0, k11, h11, nkk1, pkk1⟩ := pG l1 kk0 hl1 ⟨by omega, pkk0⟩
 obtain ⟨kk2, mk2_0, k12, h12, nkk2, pkk2⟩ := pF l2 kk1 hl2 ⟨by omega, pkk1⟩
 obtain ⟨kk3, mk3_0, h13, k14, h14, nkk3⟩ := pB q0 hb1
 exact pV a0_0 A0_1 ca0_1 l0_1 A1 ca1 l1 A2 ca2 l2 k1 k2 k3 k4 k5 k6 k7 k8 k9 k11 k12 k14 t0 q0 q1 kk0 mk0_0 kk1 mk1_0 kk2 mk2_0 kk3 mk3_0 w hr0_1 hc0_1 hr1 hc1 hr2 hc2 c0 c1 c2 h0 h1 h2 h3 h4 h5 h6 h7 h8 h9 h10 h11 h12 h13 h14 nkk2 nkk3
end Go.Proofs.YtadjbmcfgjmhkaaGreat.P
