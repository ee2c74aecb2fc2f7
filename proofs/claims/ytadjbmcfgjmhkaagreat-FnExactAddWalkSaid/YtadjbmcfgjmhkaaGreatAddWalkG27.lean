/- All independent sets of some numbers of nodes, as both sides list them. -/
import Derived.Test.YtadjbmcfgjmhkaaGreatAddWalkG26
import Derived.Test.YtadjbmcfgjmhkaaGreatAddWalkG25
namespace Go.Proofs.YtadjbmcfgjmhkaaGreat.P
open Go.RowKit YtadjbmcfgjmhkaaGreatW.PrintWords Go.Proofs.YtadjbmcfgjmhkaaGreatW.PrintLast Go.Proofs.YtadjbmcfgjmhkaaGreatW.PrintMore
set_option linter.unusedVariables false
set_option linter.unusedSimpArgs false
def cP (e : List S69) (lo hi b : Int) : Bool := (decide (lo ≤ ((bX b).length : Int)) && decide (((bX b).length : Int) ≤ hi)) && dA e (bX b)
def bi (n : Nat) (e : List S69) (lo hi : Int) : List (List Int) := bJ (bQ (cP e lo hi) (2 ^ n))
theorem jD {n : Nat} (hn : n ≤ 8) (e : List S69) (lo hi : Int) (s : List Int) : s ∈ bi n e lo hi ↔ SetN n s ∧ (lo ≤ (s.length : Int) ∧ (s.length : Int) ≤ hi) ∧ dA e s = true := by
 unfold bi
 rw [hG, mf hn]
 refine and_congr_right fun h => ?_
 unfold cP
 rw [(h.code hn).2, Bool.and_eq_true, Bool.and_eq_true, decide_eq_true_eq, decide_eq_true_eq]
theorem gH {n : Nat} (hn : n ≤ 8) (e : List S69) (lo hi : Int) : LexS (bi n e lo hi) := iS _ (me (Nat.pow_le_pow_right (n := 2) (by decide) (show n ≤ 8 from hn)) _)
theorem jE {n : Nat} (hn : n ≤ 8) (e : List S69) (lo hi : Int) : (bi n e lo hi).length ≤ 256 := by
 unfold bi
 rw [kF]
 exact Nat.le_trans (gL _ _) (Nat.pow_le_pow_right (n := 2) (by decide) (show n ≤ 8 from hn))
theorem qU {n : Nat} (hn : n ≤ 8) (e : List S69) (lo : Int) {hi hi' : Int} (h : (n : Int) ≤ hi) (h' : (n : Int) ≤ hi') : bi n e lo hi = bi n e lo hi' := by
 refine jj _ _ (gH hn e lo hi) (gH hn e lo hi') fun s => ?_
 rw [jD hn, jD hn]
 refine and_congr_right fun hs => and_congr_left fun _ => and_congr_right fun _ => ?_
 have := hs.len
 omega
section
variable (n : Nat) (hn : n ≤ 8) (e : List S69) (he : e.length ≤ 1048576) (hg : bW (n : Int) e = true) (lo hi : Int)
include hn he hg
theorem qW (b : Int) (hb : 0 ≤ b ∧ b < 256) : eT e lo hi b = cP e lo hi b := by
 have _hu := he
 have h1 := eM hg
 unfold eT cP dA
 congr 2
 refine mt e _ _ fun s hs => ?_
 have h2 := h1.2.2 s hs
 unfold dP
 rw [ep (by omega), ep (by omega), Option.getD_some, Option.getD_some]
 have hm : ∀ x : Int, 0 ≤ x → x < 8 → aI b x = decide (x ∈ bX b) := fun x h0 h8 => by
  rw [Bool.eq_iff_iff, decide_eq_true_eq, dc]
  exact ⟨fun h => ⟨by omega, h⟩, fun h => h.2⟩
 rw [hm _ (by omega) (by omega), hm _ (by omega) (by omega)]
theorem qT : gC (n : Int) e lo hi = some (bi n e lo hi) := by
 have h1 := eM hg
 have hpow : 2 ^ n ≤ 256 := Nat.pow_le_pow_right (n := 2) (by decide) (show n ≤ 8 from hn)
 unfold gC bi
 rw [if_pos ⟨by omega, by
  unfold gK
  rw [List.all_eq_true]
  intro s hs
  have := h1.2.2 s hs
  rw [ag (show 0 ≤ s.f0 by omega), ag (show 0 ≤ s.f1 by omega)]
  rfl⟩, Int.toNat_natCast]
 unfold bQ
 rw [om (eT e lo hi) (cP e lo hi) (2 ^ n) 0 fun z h0 h2 => qW n hn e he hg lo hi z ⟨h0, by omega⟩]
theorem pL (d : Nat) : ∀ m : Nat, 2 ^ n - m = d → m ≤ 2 ^ n → Ev (fun k => b6 k lo hi (bQ (cP e lo hi) m) (m : Int) (n : Int) e) (bi n e lo hi) := by
 have hpow : 2 ^ n ≤ 256 := Nat.pow_le_pow_right (n := 2) (by decide) (show n ≤ 8 from hn)
 have h1 := eM hg
 have hu : ∀ s ∈ e, s.f0 < s.f1 := fun s hs => (h1.2.2 s hs).2.1
 have hw : wrap64 ((n : Int) - 1) = (n : Int) - 1 := b5 (by omega) (by omega)
 have hsh : cN .i64 1 (n : Int) = ((2 ^ n : Nat) : Int) := by
  have : ∀ i : Fin 9, cN .i64 1 i = ((2 ^ i.val : Nat) : Int) := by decide +kernel
  exact this ⟨n, by omega⟩
 induction d with
 | zero =>
  intro m h0 h1
  have hm : m = 2 ^ n := by omega
  subst hm
  refine Ev.step (fun k => by rw [b6]) ?_
  refine Ev.pos (by omega) ?_
  rw [hsh]
  refine Ev.neg (by omega) ?_
  refine Ev.bind (pQ _ (by have := gL (cP e lo hi) (2 ^ n); omega) (fun s hs => by
   have := (((mf hn _ s).1 hs).1).len
   omega) (me hpow _)) (Ev.now _)
 | succ d ih =>
  intro m h0 h1
  have hb : 0 ≤ (m : Int) ∧ (m : Int) < ((2 ^ n : Nat) : Int) := by omega
  have hset := mq hn hb
  have hlen := hset.len
  have h5 := ih (m + 1) (by omega) (by omega)
  rw [mg, ← aN (show m < 2 ^ n by omega) (by omega)] at h5
  have hcl := gL (cP e lo hi) m
  have hf := lI (n : Int) e (bX (m : Int)) he (by omega)
  rw [l5 e _ _ hu, hw, hset.ris, Bool.true_and] at hf
  refine Ev.step (fun k => by rw [b6]) ?_
  refine Ev.pos (by omega) ?_
  rw [hsh]
  refine Ev.pos hb.2 ?_
  refine Ev.bind (sy n (m : Int) hn hb) ?_
  refine Ev.bindo (fA _ _ _) ?_
  cases c1 : (decide (lo ≤ ((bX (m : Int)).length : Int)) && decide (((bX (m : Int)).length : Int) ≤ hi)) with
  | true =>
   refine Ev.pos rfl ?_
   refine Ev.bind hf ?_
   cases c2 : dA e (bX (m : Int)) with
   | true =>
    rw [if_pos (by unfold cP; rw [c1, c2]; rfl)] at h5
    refine Ev.pos rfl ?_
    refine Ev.pos (by omega) ?_
    exact h5
   | false =>
    rw [if_neg (by unfold cP; rw [c2, Bool.and_false]; decide), List.append_nil] at h5
    refine Ev.neg (by decide) ?_
    exact h5
  | false =>
   rw [if_neg (by unfold cP; rw [c1, Bool.false_and]; decide), List.append_nil] at h5
   refine Ev.neg (by decide) ?_
   exact h5
theorem pN : Ev (fun k => fX k (n : Int) e lo hi) (bi n e lo hi) := by
 have h := pL n hn e he hg lo hi (2 ^ n) 0 (Nat.sub_zero _) (Nat.zero_le _)
 unfold fX
 rw [show bQ (cP e lo hi) 0 = [] from rfl] at h
 simpa only [Int.natCast_zero] using h
end
theorem pP (a : Int) (e : List S69) (k0 : Int) (he : e.length ≤ 1048576) : Ev (fun k => fZ k a e k0) (bW a e && (decide (0 ≤ k0) && decide (k0 ≤ 8))) := by
 unfold fZ
 refine Ev.bind (jp a e he) ?_
 cases h : bW a e with
 | true => exact Ev.pos rfl (Ev.bindo (fA _ _ _) (by rw [Bool.true_and]; exact Ev.now _))
 | false => exact Ev.neg (by decide) (Ev.now _)
theorem ke (n : Int) (h0 : 0 ≤ n) (h1 : n < 2 ^ 8) : IntKind.u64.wrap n = n := by
 simp [IntKind.wrap, IntKind.bits, IntKind.signed]
 omega
theorem jC (n y : Nat) (hn : n < 256) (hy : y < 8) : aI (n : Int) (y : Int) = n.testBit y := by
 unfold aI cM
 have e : (n : Int) / 2 ^ min (y : Int).toNat IntKind.u64.bits = ((n / 2 ^ y : Nat) : Int) := by
  rw [Int.toNat_natCast, Nat.min_eq_left (by show y ≤ 64; omega)]
  simp
 rw [e, show (1 : Int) = ((1 : Nat) : Int) from rfl, (bits_nat .u64 8 (by decide) ke (n / 2 ^ y) 1 (Nat.lt_of_le_of_lt (Nat.div_le_self _ _) hn) (by decide)).1, Nat.and_one_is_mod, Nat.testBit_eq_decide_div_mod_eq, Bool.eq_iff_iff, beq_iff_eq, decide_eq_true_eq]
 omega
theorem pw (n m : Nat) (hn : n < 256) (hm : m < 256) : ∃ q : Nat, dd (n : Int) (m : Int) = (q : Int) ∧ q < 256 ∧ ∀ y : Nat, q.testBit y = (n.testBit y && !m.testBit y) ∨ 8 ≤ y := by
 have h1 : (BitVec.ofNat 64 n &&& ~~~ BitVec.ofNat 64 m).toNat ≤ n := by
   rw [BitVec.toNat_and, BitVec.toNat_ofNat, Nat.mod_eq_of_lt (by omega)]
   exact Nat.and_le_left
 refine ⟨(BitVec.ofNat 64 n &&& ~~~ BitVec.ofNat 64 m).toNat, ?_, by omega, fun y => ?_⟩
 · unfold dd
   simp only [bits, BitVec.ofInt_natCast]
   exact ke _ (Int.natCast_nonneg _) (by
     have h2 : (BitVec.ofNat IntKind.u64.bits n &&& ~~~ BitVec.ofNat IntKind.u64.bits m).toNat ≤ n := h1
     have h3 : (2 : Int) ^ 8 = 256 := by decide
     rw [h3]
     omega)
 · by_cases hy : 8 ≤ y
   · exact .inr hy
   · left
     rw [BitVec.testBit_toNat, BitVec.getLsbD_and, BitVec.getLsbD_not, BitVec.getLsbD_ofNat, BitVec.getLsbD_ofNat]
     have : y < 64 := by omega
     simp [this]
theorem px {b c : Int} (hb : 0 ≤ b ∧ b < 256) (hc : 0 ≤ c ∧ c < 256) : (0 ≤ dd b c ∧ dd b c < 256) ∧ ∀ y, 0 ≤ y → y < 8 → aI (dd b c) y = (aI b y && !aI c y) := by
 obtain ⟨n, rfl⟩ := Int.eq_ofNat_of_zero_le hb.1
 obtain ⟨m, rfl⟩ := Int.eq_ofNat_of_zero_le hc.1
 obtain ⟨q, h1, h2, h3⟩ := pw n m (by omega) (by omega)
 rw [h1]
 refine ⟨by omega, fun y h0 h8 => ?_⟩
 obtain ⟨z, rfl⟩ := Int.eq_ofNat_of_zero_le h0
 rw [jC q z h2 (by omega), jC n z (by omega) (by omega), jC m z (by omega) (by omega)]
 rcases h3 z with h | h
 · exact h
 · omega
theorem iz {x : List Int} (hx : SetN 8 x) (z : Int) (h0 : 0 ≤ z) (h8 : z < 8) : aI (bg 0 x) z = decide (z ∈ x) := by
 have h1 := (hx.code (by decide)).2
 rw [Bool.eq_iff_iff, decide_eq_true_eq]
 constructor
 · intro h
   rw [← h1]
   exact (dc _ _ _ _).2 ⟨by omega, h⟩
 · intro h
   rw [← h1] at h
   exact ((dc _ _ _ _).1 h).2
theorem jf {x : List Int} (hx : SetN 8 x) (y : List Int) : SetN 8 (bl x y) := ⟨hx.1.filter _, fun z hz => hx.2 z (List.mem_filter.1 hz).1⟩
theorem pv {x y : List Int} (hx : SetN 8 x) (hy : SetN 8 y) : bX (dd (bg 0 x) (bg 0 y)) = bl x y ∧ (0 ≤ dd (bg 0 x) (bg 0 y) ∧ dd (bg 0 x) (bg 0 y) < 256) := by
 have h1 := (hx.code (by decide)).1
 have h2 := (hy.code (by decide)).1
 have h3 := px (b := bg 0 x) (c := bg 0 y) (by omega) (by omega)
 refine ⟨?_, h3.1⟩
 refine lf (hI _ _ _) (jf hx y).1 fun z => ?_
 unfold bl bX
 rw [dc, List.mem_filter]
 constructor
 · rintro ⟨h4, h5⟩
   rw [h3.2 z (by omega) (by omega), iz hx z (by omega) (by omega), iz hy z (by omega) (by omega), Bool.and_eq_true, decide_eq_true_eq] at h5
   exact h5
 · rintro ⟨h4, h5⟩
   have h6 := hx.2 z h4
   refine ⟨by omega, ?_⟩
   rw [h3.2 z (by omega) (by omega), iz hx z (by omega) (by omega), iz hy z (by omega) (by omega), ag h4, Bool.true_and]
   exact h5
theorem eO {x : List Int} (hx : SetN 8 x) : x.length ≤ 8 := hx.len
theorem pb {x y : List Int} (hx : SetN 8 x) (hy : SetN 8 y) : Ev (fun k => gB k x y) (dd (bg 0 x) (bg 0 y), dd (bg 0 y) (bg 0 x)) := by
 have h1 := eO hx
 have h2 := eO hy
 unfold gB
 refine Ev.bind (jR x (by omega) fun z hz => hx.2 z hz) ?_
 refine Ev.bind (jR y (by omega) fun z hz => hy.2 z hz) ?_
 exact Ev.now _
theorem kJ {x y : List Int} (hx : SetN 8 x) (hy : SetN 8 y) : eQ (dd (bg 0 x) (bg 0 y)) = some ((bl x y).length : Int) := by
 have h1 := pv hx hy
 rw [kK h1.2.1 h1.2.2, ← h1.1]
theorem mn (n : Nat) : ((n : Int) == 1) = (n == 1) := by rw [Bool.eq_iff_iff, beq_iff_eq, beq_iff_eq]; omega
theorem sT {x y : List Int} (hx : SetN 8 x) (hy : SetN 8 y) : Ev (fun k => ee k x y) (cT x y) := by
 have h1 := eO (jf hx y)
 have h2 := eO (jf hy x)
 unfold ee cT
 refine Ev.bind (pb hx hy) ?_
 refine Ev.bindo (kJ hx hy) ?_
 refine Ev.bindo (kJ hy hx) ?_
 rw [b5 (by omega) (by omega), show ((bl x y).length : Int) + ((bl y x).length : Int) = (((bl x y).length + (bl y x).length : Nat) : Int) by omega, mn]
 exact Ev.now _
theorem pa (es : List S69) (a b : Int) : jh es a b = cE es a b := by
 unfold jh cE
 rfl
theorem kW (l : List Int) : rd l 0 = l.headD 0 := by cases l <;> rfl
theorem o6 (x y : List Int) (hx : x.length ≤ 1048576) (hy : y.length ≤ 1048576) (d : Nat) : ∀ (m : Nat) (acc : List Int), x.length - m = d → m ≤ x.length → acc.length ≤ m → Ev (fun k => cU k x y acc (m : Int)) (acc ++ bl (x.drop m) y) := by
 induction d with
 | zero =>
  intro m acc h0 h1 h2
  rw [List.drop_eq_nil_of_le (by omega), show bl [] y = [] from rfl, List.append_nil]
  refine Ev.step (fun k => by rw [cU]) (Ev.neg (by omega) (Ev.now _))
 | succ d ih =>
  intro m acc h0 h1 h2
  have hm : m < x.length := by omega
  refine Ev.step (fun k => by rw [cU]) (Ev.pos (by omega) (Ev.pos (by omega) ?_))
  rw [bn x m hm, aN hm (by omega)]
  refine Ev.bind (pZ y _ hy) ?_
  rw [List.drop_eq_getElem_cons hm]
  by_cases c : x[m] ∈ y
  · refine Ev.pos (ag c) ?_
    have := ih (m + 1) acc (by omega) (by omega) (by omega)
    have e : bl (x[m] :: x.drop (m + 1)) y = bl (x.drop (m + 1)) y := by unfold bl; rw [List.filter_cons_of_neg (by simp [c])]
    rw [e]
    exact this
  · refine Ev.neg (by simp [c]) (Ev.pos (by omega) ?_)
    have := ih (m + 1) (acc ++ [x[m]]) (by omega) (by omega) (by rw [List.length_append, List.length_singleton]; omega)
    have e : bl (x[m] :: x.drop (m + 1)) y = x[m] :: bl (x.drop (m + 1)) y := by unfold bl; rw [List.filter_cons_of_pos (by simp [c])]
    rw [e]
    rw [List.append_assoc] at this
    exact this
theorem lm (x y : List Int) (hx : x.length ≤ 1048576) (hy : y.length ≤ 1048576) : Ev (fun k => fc k x y) (bl x y) := by
 have := o6 x y hx hy x.length 0 [] (by omega) (by omega) (by simp)
 unfold fc
 simpa only [List.nil_append, List.drop_zero, Int.natCast_zero] using this
def cl (es : List S69) (kind : Int) (x y : List Int) : Bool := if kind = 2 then cT x y else if kind = 1 then js x y else kG es x y
theorem ln (x y : List Int) : (bl x y).length ≤ x.length := List.length_filter_le _ _
theorem ng (a : Int) (es : List S69) (hl : es.length ≤ 1048576) (kind : Int) (x y : List Int) (hx : x.length ≤ 1048576) (hy : y.length ≤ 1048576) : Ev (fun k => ez k a es kind x y) (cl es kind x y) := by
 have h1 := ln x y
 have h2 := ln y x
 unfold ez cl
 refine Ev.bind (lm x y hx hy) ?_
 refine Ev.bind (lm y x hy hx) ?_
 by_cases c : kind = 2
 · rw [if_pos c]
   refine Ev.pos c ?_
   unfold cT
   rw [b5 (by omega) (by omega), show ((bl x y).length : Int) + ((bl y x).length : Int) = (((bl x y).length + (bl y x).length : Nat) : Int) by omega, mn]
   exact Ev.now _
 · rw [if_neg c]
   refine Ev.neg c ?_
   unfold kG js
   by_cases c1 : (bl x y).length = 1
   · rw [beq_iff_eq.mpr c1, Bool.true_and]
     refine Ev.pos (by omega) ?_
     by_cases c2 : (bl y x).length = 1
     · rw [beq_iff_eq.mpr c2, Bool.true_and]
       refine Ev.pos (by omega) ?_
       by_cases c3 : kind = 1
       · rw [if_pos c3]
         exact Ev.pos c3 (Ev.now _)
       · rw [if_neg c3]
         refine Ev.neg c3 (Ev.pos (by omega) (Ev.pos (by omega) ?_))
         rw [kW, kW, pa]
         exact Ev.bind (lr a es _ _ hl) (Ev.now _)
     · rw [beq_eq_false_iff_ne.mpr c2, Bool.false_and, ite_self]
       exact Ev.neg (by omega) (Ev.now _)
   · rw [beq_eq_false_iff_ne.mpr c1, Bool.false_and, Bool.false_and, ite_self]
     exact Ev.neg (by omega) (Ev.now _)
section
variable (a : Int) (es : List S69) (kind : Int) (ls : List (List Int)) (st : List Int → List Int → Bool) (hls : ls.length ≤ 1024) (hst : ∀ x ∈ ls, ∀ y ∈ ls, Ev (fun k => ez k a es kind x y) (st x y)) (R : List S69) (hR : R.length ≤ 1048576)
include hls hst hR
theorem ot (i : Nat) (hi : i < ls.length) (hnext : ∀ acc, acc ++ bh st (i + 1) (ls.drop (i + 1)) = R → Ev (fun k => dj k kind ls ((i + 1 : Nat) : Int) a es ls acc) (ls, R)) (d : Nat) :
  ∀ (m : Nat) (acc : List S69), ls.length - m = d → m ≤ ls.length → acc ++ bY st ls[i] i m (ls.drop m) ++ bh st (i + 1) (ls.drop (i + 1)) = R → Ev (fun k => di k kind ls (i : Int) (m : Int) a es ls acc) (ls, R) := by
 induction d with
 | zero =>
  intro m acc h0 h1 h2
  rw [List.drop_eq_nil_of_le (show ls.length ≤ m by omega), bY, List.append_nil] at h2
  refine Ev.step (fun k => by rw [di]) (Ev.neg (by omega) ?_)
  rw [aN hi (by omega)]
  exact hnext acc h2
 | succ d ih =>
  intro m acc h0 h1 h2
  have hm : m < ls.length := by omega
  have hal : acc.length ≤ 1048576 := by
   have := congrArg List.length h2
   simp only [List.length_append] at this
   omega
  rw [List.drop_eq_getElem_cons hm, bY] at h2
  refine Ev.step (fun k => by rw [di]) (Ev.pos (by omega) (Ev.pos (by omega) (Ev.pos (by omega) (Ev.pos (by omega) ?_))))
  rw [bT ls i hi, bT ls m hm, aN hm (by omega)]
  refine Ev.bind (hst _ (List.getElem_mem _) _ (List.getElem_mem _)) ?_
  cases c : st ls[i] ls[m] with
  | true =>
   rw [c, if_pos rfl] at h2
   refine Ev.pos rfl (Ev.pos (by omega) ?_)
   exact ih (m + 1) _ (by omega) (by omega) (by simpa only [List.append_assoc] using h2)
  | false =>
   rw [c, if_neg (by decide), List.nil_append] at h2
   exact Ev.neg (by decide) (ih (m + 1) _ (by omega) (by omega) h2)
theorem sL (d : Nat) : ∀ (i : Nat) (acc : List S69), ls.length - i = d → i ≤ ls.length → acc ++ bh st i (ls.drop i) = R → Ev (fun k => dj k kind ls (i : Int) a es ls acc) (ls, R) := by
 induction d with
 | zero =>
  intro i acc h0 h1 h2
  rw [List.drop_eq_nil_of_le (show ls.length ≤ i by omega), bh, List.append_nil] at h2
  refine Ev.step (fun k => by rw [dj]) (Ev.neg (by omega) ?_)
  rw [h2]
  exact Ev.now _
 | succ d ih =>
  intro i acc h0 h1 h2
  have hi : i < ls.length := by omega
  rw [List.drop_eq_getElem_cons hi, bh, ← List.append_assoc] at h2
  refine Ev.step (fun k => by rw [dj]) (Ev.pos (by omega) ?_)
  rw [aN hi (by omega)]
  exact ot a es kind ls st hls hst R hR i hi (fun acc' h => ih (i + 1) acc' (by omega) (by omega) h) _ (i + 1) acc rfl (by omega) h2
end
theorem pM (a : Int) (es : List S69) (kind : Int) (ls : List (List Int)) (st : List Int → List Int → Bool) (hls : ls.length ≤ 1024) (hst : ∀ x ∈ ls, ∀ y ∈ ls, Ev (fun k => ez k a es kind x y) (st x y)) : Ev (fun k => fb k a es kind ls) (ls, bh st 0 ls) := by
 have h1 := jU st ls 0
 have h4 : ls.length * ls.length ≤ 1024 * 1024 := Nat.mul_le_mul hls hls
 have := sL a es kind ls st hls hst (bh st 0 ls) (by omega) ls.length 0 [] (by omega) (by omega) (by rw [List.drop_zero, List.nil_append])
 unfold fb
 simpa only [Int.natCast_zero] using this
theorem rM {α β : Type} (t : List α) (f : Nat → α → Option β) (g : α → β) (h : ∀ x ∈ t, Ev (fun k => f k x) (g x)) : ∃ K, ∀ k, K ≤ k → ∀ x ∈ t, f k x = some (g x) := by
 induction t with
 | nil => exact ⟨0, fun _ _ x hx => by cases hx⟩
 | cons a t ih =>
  obtain ⟨K, hK⟩ := ih fun x hx => h x (List.mem_cons_of_mem _ hx)
  obtain ⟨K', hK'⟩ := h a (List.mem_cons_self ..)
  refine ⟨max K K', fun k hk x hx => ?_⟩
  rcases List.mem_cons.1 hx with rfl | hx
  · exact hK' k (by omega)
  · exact hK k (by omega) x hx
theorem nT (f : Nat → List Int → List Int → Option Bool) (st : List Int → List Int → Bool) (t : List (List Int)) (hl : t.length ≤ 1024) (h : ∀ x ∈ t, ∀ y ∈ t, Ev (fun k => f k x y) (st x y)) (hs : bJ t = t) : Ev (fun k => fl (iB (f k) st t) st t) (t, bh st 0 t, true) := by
 obtain ⟨K, hK⟩ := rM (t.flatMap fun x => t.map fun y => (x, y)) (fun k p => f k p.1 p.2) (fun p => st p.1 p.2) fun p hp => by
  obtain ⟨x, hx, hp⟩ := List.mem_flatMap.1 hp
  obtain ⟨y, hy, rfl⟩ := List.mem_map.1 hp
  exact h x hx y hy
 refine ⟨K, fun k hk => ?_⟩
 show fl _ _ _ = _
 unfold fl
 rw [if_pos ⟨hl, ag fun x hx y hy => hK k hk (x, y) (List.mem_flatMap.2 ⟨x, hx, List.mem_map.2 ⟨y, hy, rfl⟩⟩)⟩, hs]
theorem qV {n : Nat} (hn : n ≤ 8) (e : List S69) (lo hi : Int) : bJ (bi n e lo hi) = bi n e lo hi :=
 jj _ _ (iS _ (gH hn e lo hi).nodup) (gH hn e lo hi) fun s => hG _ _
theorem gI {n : Nat} (hn : n ≤ 8) {e : List S69} {lo hi : Int} {s : List Int} (h : s ∈ bi n e lo hi) : SetN 8 s := ((jD hn e lo hi s).1 h).1.wide hn
def b7 : Nat → Int → List Int
 | 0, _ => []
 | n + 1, k => k :: b7 n (wrap64 (k + 1))
def cH : Nat → Int → Int
 | 0, k => k
 | n + 1, k => cH n (wrap64 (k + 1))
theorem og (n : Nat) : ∀ k, (b7 n k).length = n := by
 induction n with
 | zero => intro k; rfl
 | succ n ih => intro k; simp [b7, ih]
theorem gJ (n : Nat) : ∀ k, 0 ≤ k → k + (n : Int) ≤ 4611686018427387904 → cH n k = k + (n : Int) := by
 induction n with
 | zero => intro k h1 h2; simp [cH]
 | succ n ih =>
  intro k h1 h2
  have e1 : wrap64 (k + 1) = k + 1 := b5 (by omega) (by omega)
  rw [cH, e1, ih (k + 1) (by omega) (by omega)]
  omega
theorem pk (d : Nat) : ∀ (done rest : List Int) (c : Int), rest.length = d → done.length + d ≤ 1048576 →
  Ev (fun k => cO k (done ++ rest) c (done.length : Int)) (cH d c, done ++ b7 d c) := by
 induction d with
 | zero =>
  intro done rest c h0 h1
  refine Ev.step (fun k => by rw [cO]) ?_
  have : rest = [] := List.eq_nil_of_length_eq_zero h0
  subst this
  refine Ev.neg (by simp) ?_
  exact Ev.now _
 | succ d ih =>
  intro done rest c h0 h1
  obtain ⟨x, t, rfl⟩ : ∃ x t, rest = x :: t := by
   cases rest with
   | nil => simp at h0
   | cons x t => exact ⟨x, t, rfl⟩
  have h2 : t.length = d := by simpa using h0
  refine Ev.step (fun k => by rw [cO]) ?_
  refine Ev.pos (by simp; omega) (Ev.pos (by omega) ?_)
  have e : (done ++ x :: t).set ((done.length : Int)).toNat c = (done ++ [c]) ++ t := by
   rw [Int.toNat_natCast]
   simp
  have hw : wrap64 ((done.length : Int) + 1) = ((done ++ [c]).length : Int) := by
   rw [List.length_append, List.length_singleton]
   exact aN (n := done.length + 1) (by omega) (by omega)
  rw [e, hw]
  have := ih (done ++ [c]) t (wrap64 (c + 1)) h2 (by rw [List.length_append, List.length_singleton]; omega)
  simpa only [b7, cH, List.append_assoc, List.singleton_append] using this
theorem lv (l : List Int) (c : Int) (hl : l.length ≤ 1048576) : Ev (fun k => du k l c) (cH l.length c, b7 l.length c) := by
 unfold du
 have := pk l.length [] l c rfl (by simpa using hl)
 simpa only [List.nil_append, List.length_nil, Int.ofNat_eq_natCast, Int.natCast_zero] using this
theorem qI (d : Nat) : ∀ (done : List Int) (c : Int), done.length + d ≤ 1048576 →
  Ev (fun k => d8 k (done ++ b7 d c) c (done.length : Int)) (cH d c) := by
 induction d with
 | zero =>
  intro done c h1
  refine Ev.step (fun k => by rw [d8]) ?_
  refine Ev.neg (by simp [b7]) ?_
  exact Ev.now _
 | succ d ih =>
  intro done c h1
  refine Ev.step (fun k => by rw [d8]) ?_
  have hlen : (done ++ b7 (d + 1) c).length = done.length + (d + 1) := by rw [List.length_append, og]
  refine Ev.pos (by rw [hlen]; omega) (Ev.pos (by omega) ?_)
  have hr : rd (done ++ b7 (d + 1) c) (done.length : Int) = c := by
   rw [bn _ _ (by rw [hlen]; omega)]
   simp [b7]
  refine Ev.pos hr ?_
  have hw : wrap64 ((done.length : Int) + 1) = ((done ++ [c]).length : Int) := by
   rw [List.length_append, List.length_singleton]
   exact aN (n := done.length + 1) (by omega) (by omega)
  rw [hw]
  have := ih (done ++ [c]) (wrap64 (c + 1)) (by rw [List.length_append, List.length_singleton]; omega)
  simpa only [b7, cH, List.append_assoc, List.singleton_append] using this
theorem qJ (n : Nat) (c : Int) (hn : n ≤ 1048576) : Ev (fun k => gr k (b7 n c) c) (cH n c) := by
 unfold gr
 have := qI n [] c (by simpa using hn)
 simpa only [List.nil_append, List.length_nil, Int.ofNat_eq_natCast, Int.natCast_zero] using this
theorem oe (n : Nat) : ∀ k, cy n k = b7 n k := by
 induction n with
 | zero => intro k; rfl
 | succ n ih => intro k; simp only [cy, b7, ih]
theorem jH (n : Nat) : ∀ k, cG n k = cH n k := by
 induction n with
 | zero => intro k; rfl
 | succ n ih => intro k; simp only [cG, cH, ih]
theorem l9 (n : Nat) (k : Int) (hn : n ≤ 1048576) (h0 : 0 ≤ k) (h1 : k ≤ 2305843009213693952) : ¬ cH n k < 0 := by rw [gJ n k h0 (by omega)]; omega
theorem pi (l : List (List Int)) : ∀ (k : Int), (∀ s ∈ l, s.length ≤ 1048576) → 0 ≤ k → k + 1048576 * (l.length : Int) ≤ 2305843009213693952 → 0 ≤ (bG l k).1 ∧ (bG l k).1 ≤ k + 1048576 * (l.length : Int) := by
 induction l with
 | nil => intro k _ h0 h1; simp only [bG, List.length_nil]; omega
 | cons s t ih =>
  intro k hs h0 h1
  have h2 := hs s (.head _)
  rw [List.length_cons] at h1 ⊢
  have e1 : cG s.length k = k + (s.length : Int) := by rw [jH, gJ s.length k h0 (by omega)]
  simp only [bG, e1]
  have := ih (k + (s.length : Int)) (fun q hq => hs q (.tail _ hq)) (by omega) (by omega)
  omega
theorem pj (l : List (List Int)) (k : Int) : gp l k = some ((bG l k).1, (bG l k).2) := rfl
theorem pf (l : List (List Int)) (h0 : l.length ≤ 1048576) (h : ∀ s ∈ l, s.length ≤ 1048576) : ¬ (bG l 1).1 < 0 := by
 have h1 := pi l 1 h (by omega) (by omega)
 omega
theorem po (a : Int) (l : List S69) (h : l.length ≤ 1048576) : ∃ k b, gq a l 1 = some (k, b) ∧ ¬ k < 0 ∧ k ≤ 2251799813685248 := ⟨_, _, pp a l 1, pq l h, by rw [lw l 1 (by omega) (by omega)]; omega⟩
theorem pn (l : List Int) (c : Int) (h : l.length ≤ 1048576) (hc : 0 ≤ c ∧ c ≤ 2251799813685248) : ∃ k b n, du n l c = some (k, b) ∧ ¬ k < 0 ∧ k ≤ 2305843009213693952 := by
 obtain ⟨n, hn⟩ := Ev.rounds (lv l c h)
 exact ⟨_, _, n, hn, l9 _ _ h hc.1 (by omega), by rw [gJ l.length c hc.1 (by omega)]; omega⟩
theorem pm (l : List Int) (c : Int) (h : l.length ≤ 1048576) (hc : 0 ≤ c ∧ c ≤ 2305843009213693952) : ∃ k b n, du n l c = some (k, b) ∧ ¬ k < 0 ∧ k ≤ 4611686018427387904 := by
 obtain ⟨n, hn⟩ := Ev.rounds (lv l c h)
 exact ⟨_, _, n, hn, l9 _ _ h hc.1 (by omega), by rw [gJ l.length c hc.1 (by omega)]; omega⟩
theorem qG (done : List (List Int)) : ∀ (t : List (List Int)) (k : Int), (∀ s ∈ t, s.length ≤ 1048576) → 0 ≤ k → k + 1048576 * (t.length : Int) ≤ 2305843009213693952 → done.length + t.length ≤ 1048576 → Ev (fun n => d7 n (done ++ (bG t k).2) k (done.length : Int)) (bG t k).1 := by
 intro t
 induction t generalizing done with
 | nil =>
  intro k _ h0 h1 h2
  refine Ev.step (fun n => by rw [d7]) (Ev.neg (by simp [bG]) ?_)
  exact Ev.now _
 | cons s t ih =>
  intro k hs h0 h1 h2
  have h3 := hs s (.head _)
  rw [List.length_cons] at h1 h2
  have e1 : cG s.length k = k + (s.length : Int) := by rw [jH, gJ s.length k h0 (by omega)]
  simp only [bG, e1]
  have hlen : done.length < (done ++ cy s.length k :: (bG t (k + (s.length : Int))).2).length := by simp
  refine Ev.step (fun n => by rw [d7]) (Ev.pos (by omega) (Ev.pos (by omega) ?_))
  rw [bT _ done.length hlen, List.getElem_append_right (au _)]
  simp only [Nat.sub_self, List.getElem_cons_zero]
  have hh := qJ s.length k h3
  rw [← oe, ← jH, e1] at hh
  refine Ev.bind hh (Ev.neg (by omega) ?_)
  have := ih (done ++ [cy s.length k]) (k + (s.length : Int)) (fun q hq => hs q (.tail _ hq)) (by omega) (by omega) (by simp; omega)
  rw [List.append_assoc, List.singleton_append] at this
  have ew : wrap64 ((done.length : Int) + 1) = ((done ++ [cy s.length k]).length : Int) := by
   rw [List.length_append, List.length_singleton]; unfold wrap64; omega
  rw [ew]
  exact this
theorem qH (t : List (List Int)) (h : ∀ s ∈ t, s.length ≤ 1048576) (hl : t.length ≤ 1048576) : Ev (fun n => fz n (bG t 1).2 1) (bG t 1).1 := by
 have := qG [] t 1 h (by omega) (by omega) (by simpa using hl)
 simpa [fz] using this
theorem pg (l : List (List Int)) (h : l.length ≤ 1048576 ∧ ∀ s ∈ l, s.length ≤ 1048576) : ∃ k b, gp l 1 = some (k, b) ∧ ∃ m, fz m b 1 = some k ∧ ¬ k < 0 := by
 obtain ⟨m, hm⟩ := Ev.rounds (qH l h.2 h.1)
 exact ⟨_, _, pj l 1, m, hm, pf l h.1 h.2⟩
def iG (a : Int) (e : List S69) (k0 lo hi kind : Int) : List (List Int) × List S69 × Bool :=
 if (bW a e && (decide (0 ≤ k0) && decide (k0 ≤ 8))) = true then (bi a.toNat e lo hi, bh (cl e kind) 0 (bi a.toNat e lo hi), true) else ([], [], false)
theorem pK (n : Nat) (hn : n ≤ 8) (e : List S69) (he : e.length ≤ 1048576) (lo hi kind : Int) : Ev (fun k => fb k (n : Int) e kind (bi n e lo hi)) (bi n e lo hi, bh (cl e kind) 0 (bi n e lo hi)) := by
 have h2 := jE hn e lo hi
 exact pM _ e kind _ _ (by omega) fun x hx y hy => ng _ e he kind x y (by have := eO (gI hn hx); omega) (by have := eO (gI hn hy); omega)
theorem qh (n : Nat) (hn : n ≤ 8) (e : List S69) (lo hi kind : Int) (f : Nat → List Int → List Int → Option Bool) (h : ∀ x y, SetN 8 x → SetN 8 y → Ev (fun k => f k x y) (cl e kind x y)) : Ev (fun k => fl (iB (f k) (cl e kind) (bi n e lo hi)) (cl e kind) (bi n e lo hi)) (bi n e lo hi, bh (cl e kind) 0 (bi n e lo hi), true) := by
 have h2 := jE hn e lo hi
 exact nT f _ _ (by omega) (fun x hx y hy => h x y (gI hn hx) (gI hn hy)) (qV hn e lo hi)
theorem kp (e : List S69) : cl e 2 = cT := by funext x y; unfold cl; rw [if_pos rfl]
theorem qD (a : Int) (e : List S69) (k0 : Int) (he : e.length ≤ 1048576) : Ev (fun k => gD k a e k0) (iG a e k0 k0 a 2) := by
 unfold gD iG
 refine Ev.bind (lQ _ e he) ?_
 by_cases hg : bW a e = true
 · have h1 := eM hg
   rw [hg, Bool.true_and]
   refine Ev.pos rfl ?_
   refine Ev.bindo (jN _ _ _) ?_
   by_cases c : (decide (0 ≤ k0) && decide (k0 ≤ 8)) = true
   · rw [if_pos c]
     obtain ⟨n, rfl⟩ := Int.eq_ofNat_of_zero_le h1.1
     refine Ev.pos c ?_
     rw [Int.toNat_natCast]
     refine Ev.bindo (qT n (by omega) e he hg k0 8) ?_
     rw [qU (by omega) e k0 (hi := 8) (hi' := (n : Int)) (by omega) (Int.le_refl _)]
     have := qh n (by omega) e k0 (n : Int) 2 (fun k => ee k) (fun x y hx hy => by rw [kp]; exact sT hx hy)
     rw [kp] at this ⊢
     exact this
   · rw [if_neg c]
     exact Ev.neg c (Ev.now _)
 · rw [if_neg (by rw [Bool.and_eq_true]; exact fun h => hg h.1)]
   exact Ev.neg hg (Ev.now _)
theorem qP (n : Int) (l : List S69) : ∀ p, (∀ e ∈ l, 0 ≤ e.f0 ∧ e.f0 < e.f1 ∧ e.f1 < n) → l.Pairwise (fun a b => bE a b = true) → (∀ q, p = some q → ∀ s ∈ l, bE q s = true) → bL n p l = true := by
 induction l with
 | nil => intro p _ _ _; rfl
 | cons x t ih =>
  intro p h1 h2 h3
  have h4 := h1 x (List.mem_cons_self ..)
  rw [List.pairwise_cons] at h2
  have h5 := ih (some x) (fun e he => h1 e (List.mem_cons_of_mem _ he)) h2.2 (fun q hq s hs => by injection hq with hq; subst hq; exact h2.1 s hs)
  simp only [bL, Bool.and_eq_true, decide_eq_true_eq]
  refine ⟨⟨⟨h4.1, h4.2.1⟩, h4.2.2⟩, ?_, h5⟩
  cases p with
  | none => rfl
  | some q => exact h3 q rfl x (List.mem_cons_self ..)
theorem iZ (st : List Int → List Int → Bool) (a : List Int) (i : Nat) (t : List (List Int)) : ∀ k, ∀ e ∈ bY st a i k t, e.f0 = (i : Int) ∧ (k : Int) ≤ e.f1 ∧ e.f1 < ((k + t.length : Nat) : Int) := by
 induction t with
 | nil => intro k e he; cases he
 | cons b t ih =>
  intro k e he
  simp only [bY, List.mem_append] at he
  rcases he with he | he
  · split at he
    · rw [List.mem_singleton] at he
      subst he
      exact ⟨rfl, Int.le_refl _, by rw [List.length_cons]; show (k : Int) < _; omega⟩
    · cases he
  · have := ih (k + 1) e he
    rw [List.length_cons]
    exact ⟨this.1, by omega, by omega⟩
theorem ou (st : List Int → List Int → Bool) (a : List Int) (i : Nat) (t : List (List Int)) : ∀ k, (bY st a i k t).Pairwise (fun a b => a.f0 = b.f0 ∧ a.f1 < b.f1) := by
 induction t with
 | nil => intro k; exact .nil
 | cons b t ih =>
  intro k
  simp only [bY]
  rw [List.pairwise_append]
  refine ⟨by split <;> simp, ih (k + 1), fun x hx y hy => ?_⟩
  have h2 := iZ st a i t (k + 1) y hy
  split at hx
  · rw [List.mem_singleton] at hx
    subst hx
    exact ⟨h2.1.symm, by show (k : Int) < _; omega⟩
  · cases hx
theorem mw (st : List Int → List Int → Bool) (t : List (List Int)) : ∀ i, ∀ e ∈ bh st i t, (i : Int) ≤ e.f0 ∧ e.f0 < e.f1 ∧ e.f1 < ((i + t.length : Nat) : Int) := by
 induction t with
 | nil => intro i e he; cases he
 | cons b t ih =>
  intro i e he
  simp only [bh, List.mem_append] at he
  rw [List.length_cons]
  rcases he with he | he
  · have := iZ st b i t (i + 1) e he
    exact ⟨by omega, by omega, by omega⟩
  · have := ih (i + 1) e he
    exact ⟨by omega, by omega, by omega⟩
theorem sN (st : List Int → List Int → Bool) (t : List (List Int)) : ∀ i, (bh st i t).Pairwise (fun a b => a.f0 < b.f0 ∨ (a.f0 = b.f0 ∧ a.f1 < b.f1)) := by
 induction t with
 | nil => intro i; exact .nil
 | cons b t ih =>
  intro i
  simp only [bh]
  rw [List.pairwise_append]
  refine ⟨(ou st b i t (i + 1)).imp fun h => .inr h, ih (i + 1), fun x hx y hy => .inl ?_⟩
  have h1 := iZ st b i t (i + 1) x hx
  have h2 := mw st t (i + 1) y hy
  omega
theorem sO (st : List Int → List Int → Bool) (t : List (List Int)) : bL (t.length : Int) none (bh st 0 t) = true := by
 refine qP _ _ _ (fun e he => ?_) ((sN st t 0).imp fun {a b} h => ?_) (fun q hq => by cases hq)
 · have := mw st t 0 e he
   exact ⟨by omega, by omega, by omega⟩
 · unfold bE
   rcases h with h | h
   · simp [h]
   · simp [h.1, h.2]
theorem m4 {n : Nat} (hn : n ≤ 8) (e : List S69) (lo hi kind : Int) : gj (bi n e lo hi) (bh (cl e kind) 0 (bi n e lo hi)) := by
 have h2 := jE hn e lo hi
 have h3 := jU (cl e kind) (bi n e lo hi) 0
 have h4 : (bi n e lo hi).length * (bi n e lo hi).length ≤ 256 * 256 := Nat.mul_le_mul h2 h2
 exact ⟨by omega, fun s hs => by have := eO (gI hn hs); omega, by omega⟩
section
variable {z : List (List Int)} (hn : z.length ≤ 1048576) (hr : ∀ i, (af z i).length ≤ 1048576) {D : List Int} (hD : D.length = z.length)
include hn hr hD
theorem mV (i j : Int) (hi : 0 ≤ i ∧ i < (z.length : Int)) (hz : ∀ q ∈ af z i, 0 ≤ q ∧ q < (z.length : Int)) (hDi : 0 < rd D i ∧ rd D i ≤ 1048577) (acc : List Int) (ha : acc.length ≤ 4000000) (d : Nat) : ∀ (m : Nat), (af z i).length - m = d → m ≤ (af z i).length → (∃ q ∈ (af z i).drop m, rd D q = rd D i - 1) →
  ∃ q, q ∈ af z i ∧ rd D q = rd D i - 1 ∧
    (∀ R, Ev (fun k => cV k q j z D (acc ++ [q])) R → Ev (fun k => dU k i j z D acc (m : Int)) R) ∧
    (∀ R, Ev (fun k => cD k q j z D (acc ++ [q])) R → Ev (fun k => ej k i j z D acc (af z i) ((af z i).length : Int) (m : Int)) R) := by
 have hrl := hr i
 have _hu := hn
 have hw : wrap64 (rd D i - 1) = rd D i - 1 := b5 (by omega) (by omega)
 have HW := Aside0.mk hw
 clear hw
 induction d with
 | zero =>
  intro m h0 h1 h2
  obtain ⟨q, hq, _⟩ := h2
  rw [List.drop_eq_nil_of_le (by omega)] at hq
  cases hq
 | succ d ih =>
  intro m h0 h1 h2
  have hm : m < (af z i).length := by omega
  have hq := hz (af z i)[m] (List.getElem_mem hm)
  by_cases c : rd D (af z i)[m] = rd D i - 1
  · refine ⟨(af z i)[m], List.getElem_mem hm, c, fun R hR => ?_, fun R hR => ?_⟩
    · refine Ev.step (fun k => by rw [dU]) ?_
      refine Ev.pos hi.1 ?_
      refine Ev.pos hi.2 ?_
      refine Ev.pos (by omega) ?_
      refine Ev.pos (by omega) ?_
      rw [bn _ m hm]
      refine Ev.pos hq.1 ?_
      refine Ev.pos (by omega) ?_
      refine Ev.pos (by omega) ?_
      rw [HW.out]
      refine Ev.pos c ?_
      refine Ev.pos (by omega) ?_
      exact hR
    · refine Ev.step (fun k => by rw [ej]) ?_
      refine Ev.pos (by omega) ?_
      refine Ev.pos (by omega) ?_
      refine Ev.pos (by omega) ?_
      rw [bn _ m hm]
      refine Ev.pos hq.1 ?_
      refine Ev.pos (by omega) ?_
      refine Ev.pos hi.1 ?_
      refine Ev.pos (by omega) ?_
      rw [HW.out]
      refine Ev.pos c ?_
      refine Ev.pos (by omega) ?_
      exact hR
  · obtain ⟨q, q1, q2, q3, q4⟩ := ih (m + 1) (by omega) (by omega) (by
      obtain ⟨q, hq', hq2⟩ := h2
      rw [List.drop_eq_getElem_cons hm] at hq'
      rcases List.mem_cons.1 hq' with rfl | hq'
      · exact absurd hq2 c
      · exact ⟨q, hq', hq2⟩)
    rw [← aN hm (by omega)] at q3 q4
    refine ⟨q, q1, q2, fun R hR => ?_, fun R hR => ?_⟩
    · have e3 := q3 R hR
      refine Ev.step (fun k => by rw [dU]) ?_
      refine Ev.pos hi.1 ?_
      refine Ev.pos hi.2 ?_
      refine Ev.pos (by omega) ?_
      refine Ev.pos (by omega) ?_
      rw [bn _ m hm]
      refine Ev.pos hq.1 ?_
      refine Ev.pos (by omega) ?_
      refine Ev.pos (by omega) ?_
      rw [HW.out]
      refine Ev.neg c ?_
      exact e3
    · have e4 := q4 R hR
      refine Ev.step (fun k => by rw [ej]) ?_
      refine Ev.pos (by omega) ?_
      refine Ev.pos (by omega) ?_
      refine Ev.pos (by omega) ?_
      rw [bn _ m hm]
      refine Ev.pos hq.1 ?_
      refine Ev.pos (by omega) ?_
      refine Ev.pos hi.1 ?_
      refine Ev.pos (by omega) ?_
      rw [HW.out]
      refine Ev.neg c ?_
      exact e4
theorem mW (hz : fu z) (hs : iK z) (j : Int) (hb : ∀ k, rd D k ≤ 1048577) (h0 : rd D j = 0) (hE : ∀ k, 0 ≤ k → k < (z.length : Int) → 0 ≤ rd D k → k = j ∨ ∃ p, 0 ≤ p ∧ p < (z.length : Int) ∧ k ∈ af z p ∧ 0 ≤ rd D p ∧ rd D k = rd D p + 1) (t : Nat) :
  ∀ (i : Int) (acc : List Int), 0 ≤ i → i < (z.length : Int) → rd D i = (t : Int) → acc.length + t ≤ 2000000 → 0 < acc.length → (∀ x ∈ acc, 0 ≤ x ∧ x < (z.length : Int)) → ∃ R : List Int, R.length = acc.length + t ∧ Ev (fun k => cV k i j z D acc) R ∧ Ev (fun k => cD k i j z D acc) (R, true) ∧ ∀ x ∈ R, 0 ≤ x ∧ x < (z.length : Int) := by
 induction t with
 | zero =>
  intro i acc hi0 hi1 hd ha hp hin
  have hij : i = j := by
    rcases hE i hi0 hi1 (by omega) with e | ⟨p, p0, p1, p2, p3, p4⟩
    · exact e
    · omega
  refine ⟨acc, rfl, ?_, ?_, hin⟩
  · refine Ev.step (fun k => by rw [cV]) ?_
    exact Ev.pos hij (Ev.now _)
  · refine Ev.step (fun k => by rw [cD]) ?_
    exact Ev.pos hij (Ev.now _)
 | succ t ih =>
  intro i acc hi0 hi1 hd ha hp hin
  have hij : i ≠ j := fun e => by rw [e, h0] at hd; omega
  obtain ⟨q, q1, q2, q3, q4⟩ := mV hn hr hD i j ⟨hi0, hi1⟩ (hz i hi0 hi1) ⟨by omega, hb i⟩ acc (by omega) ((af z i).length - 0) 0 rfl (Nat.zero_le _) (by
    rw [List.drop_zero]
    rcases hE i hi0 hi1 (by omega) with e | ⟨p, p0, p1, p2, p3, p4⟩
    · exact absurd e hij
    · exact ⟨p, hs p i p0 p1 hi0 hi1 p2, by omega⟩)
  simp only [Int.natCast_zero] at q3 q4
  have hq := hz i hi0 hi1 q q1
  obtain ⟨R, r0, r1, r2, r3⟩ := ih q (acc ++ [q]) hq.1 hq.2 (by omega) (by rw [List.length_append, List.length_singleton]; omega) (by rw [List.length_append, List.length_singleton]; omega) (fun x hx => by
    rcases List.mem_append.1 hx with h | h
    · exact hin x h
    · rw [List.mem_singleton] at h
      exact h ▸ hq)
  refine ⟨R, by rw [r0, List.length_append, List.length_singleton]; omega, ?_, ?_, r3⟩
  · have e3 := q3 R r1
    refine Ev.step (fun k => by rw [cV]) ?_
    refine Ev.neg hij ?_
    exact e3
  · have e4 := q4 (R, true) r2
    refine Ev.step (fun k => by rw [cD]) ?_
    refine Ev.neg hij ?_
    refine Ev.pos hi0 ?_
    refine Ev.pos hi1 ?_
    exact e4
end
theorem oo (l : List (List Int)) (h : LexS l) (q : Nat) (hq : q < l.length) : ch (fun i => bH (l.getD i []) l[q]) (l.length + 1) 0 l.length = q := by
 refine ss _ l.length q (fun i hi => ?_) (fun i hi hn => ?_) _ _ _ (Nat.zero_le _) (by omega) (au _) (by omega)
 · rw [jJ, List.getD_eq_getElem?_getD, List.getElem?_eq_getElem (by omega), Option.getD_some]
   exact List.pairwise_iff_getElem.1 h i q (by omega) hq hi
 · rw [jJ, List.getD_eq_getElem?_getD, List.getElem?_eq_getElem hn, Option.getD_some]
   by_cases c : i = q
   · subst c
     rw [gR]
     decide
   · rw [jO (List.pairwise_iff_getElem.1 h q i hq hn (by omega))]
     decide
section
variable (l : List (List Int)) (e : List S69) (hm : gj l e)
include hm
theorem lJ (s : List Int) (d : Nat) : ∀ (m : Nat), l.length - m = d → m ≤ l.length →
  ∃ r : Int, Ev (fun k => dH k s (m : Int) l e) r ∧ ((r = -1 ∧ s ∉ l.drop m) ∨ ∃ q : Nat, ∃ hq : q < l.length, r = (q : Int) ∧ l[q] = s) := by
 have hl := hm.1
 induction d with
 | zero =>
  intro m h0 h1
  refine ⟨-1, ?_, .inl ⟨rfl, ?_⟩⟩
  · refine Ev.step (fun k => by rw [dH]) ?_
    exact Ev.neg (by omega) (Ev.now _)
  · rw [List.drop_eq_nil_of_le (by omega)]
    simp
 | succ d ih =>
  intro m h0 h1
  have hmm : m < l.length := by omega
  by_cases c : l[m] = s
  · refine ⟨(m : Int), ?_, .inr ⟨m, hmm, rfl, c⟩⟩
    refine Ev.step (fun k => by rw [dH]) ?_
    refine Ev.pos (by omega) (Ev.pos (by omega) ?_)
    rw [bT l m hmm]
    exact Ev.bind (hJ _ _ (hm.2.1 _ (List.getElem_mem hmm))) (Ev.pos (ag c) (Ev.now _))
  · obtain ⟨r, hr, hd⟩ := ih (m + 1) (by omega) (by omega)
    refine ⟨r, ?_, ?_⟩
    · refine Ev.step (fun k => by rw [dH]) ?_
      refine Ev.pos (by omega) (Ev.pos (by omega) ?_)
      rw [bT l m hmm, aN hmm (by omega)]
      exact Ev.bind (hJ _ _ (hm.2.1 _ (List.getElem_mem hmm))) (Ev.neg (by rw [ar c]; decide) hr)
    · rcases hd with ⟨hd, hn⟩ | hd
      · refine .inl ⟨hd, ?_⟩
        rw [List.drop_eq_getElem_cons hmm, List.mem_cons]
        rintro (hh | hh)
        · exact c hh.symm
        · exact hn hh
      · exact .inr hd
theorem je (hx : LexS l) (s : List Int) (hs : s ∈ l) : ∃ q : Nat, ∃ hq : q < l.length, l[q] = s ∧ Ev (fun k => dI k l e s) (q : Int) ∧ dO l e s = some ((q : Int), true) := by
 have hl := hm.1
 obtain ⟨r, hr, hd⟩ := lJ l e hm s l.length 0 (by omega) (Nat.zero_le _)
 have hr' : Ev (fun k => dI k l e s) r := hr
 rcases hd with ⟨hd, hn⟩ | ⟨q, hq, hd, h2⟩
 · exact absurd hs (by rw [List.drop_zero] at hn; exact hn)
 · subst h2
   refine ⟨q, hq, rfl, hd ▸ hr', ?_⟩
   have hp : eJ l l[q] = q := oo l hx q hq
   unfold dO
   rw [if_pos (by omega), hp, ag hq, Bool.true_and, List.getD_eq_getElem?_getD, List.getElem?_eq_getElem hq, Option.getD_some, (mi _ _).2 rfl]
   rfl
theorem jd (s : List Int) (hs : s ∉ l) : Ev (fun k => dI k l e s) (-1) ∧ ∃ r, dO l e s = some (r, false) := by
 have hl := hm.1
 obtain ⟨r, hr, hd⟩ := lJ l e hm s l.length 0 (by omega) (Nat.zero_le _)
 have hr' : Ev (fun k => dI k l e s) r := hr
 rcases hd with ⟨hd, hn⟩ | ⟨q, hq, hd, h2⟩
 · refine ⟨hd ▸ hr', (eJ l s : Int), ?_⟩
   unfold dO
   rw [if_pos (by omega)]
   congr 2
   by_cases c : eJ l s < l.length
   · rw [ag c, Bool.true_and, beq_eq_false_iff_ne]
     intro h
     rw [mi, List.getD_eq_getElem?_getD, List.getElem?_eq_getElem c, Option.getD_some] at h
     exact hs (h ▸ List.getElem_mem c)
   · rw [ar c, Bool.false_and]
 · exact absurd (h2 ▸ List.getElem_mem hq) hs
theorem mX (hg : bL (l.length : Int) none e = true) (i j : Nat) (hi : i < l.length) (hj : j < l.length) : ∃ (R : List Int) (ok : Bool), Ev (fun k => fd k l e (i : Int) (j : Int)) R ∧ Ev (fun k => fH k l e (i : Int) (j : Int)) (R, ok) ∧ ok = decide (0 < R.length) ∧ R.length ≤ 1048576 ∧ ∀ x ∈ R, 0 ≤ x ∧ x < (l.length : Int) := by
 have hlen := i5 l e
 have hml := hm.1
 have hok := oC l e hm hg
 have hrow := oB l e hm hg
 obtain ⟨D, e1, e2, e3, e4, e5, e6, e7, e8, e9⟩ := nk hok (by omega) hrow (j : Int) (by omega) (by omega)
 by_cases hd : rd D (i : Int) < 0
 · refine ⟨[], false, ?_, ?_, rfl, Nat.zero_le _, fun x hx => by cases hx⟩
   · unfold fd
     refine Ev.bind (lx l e hm hg) ?_
     refine Ev.bind e2 ?_
     refine Ev.pos (by omega) ?_
     refine Ev.pos (by omega) ?_
     exact Ev.pos hd (Ev.now _)
   · unfold fH
     refine Ev.bind (kP l e hm hg) ?_
     refine Ev.bind e1 ?_
     refine Ev.pos (by omega) ?_
     refine Ev.pos (by omega) ?_
     exact Ev.pos hd (Ev.now _)
 · have hb := e4 (i : Int)
   obtain ⟨R, r0, r1, r2, r3⟩ := mW (z := cz l e) (by omega) hrow e3 hok (oA l e hm hg) (j : Int) (fun k => by have := e4 k; omega) e8 e9 (rd D (i : Int)).toNat (i : Int) [(i : Int)] (by omega) (by omega) (by omega) (by rw [List.length_singleton]; omega) (by simp) (fun x hx => by rw [List.mem_singleton] at hx; subst hx; omega)
   have hRn : 0 < R.length := by rw [r0, List.length_singleton]; omega
   refine ⟨R, true, ?_, ?_, (ag hRn).symm, by rw [r0, List.length_singleton]; omega, fun x hx => by have := r3 x hx; omega⟩
   · unfold fd
     refine Ev.bind (lx l e hm hg) ?_
     refine Ev.bind e2 ?_
     refine Ev.pos (by omega) ?_
     refine Ev.pos (by omega) ?_
     refine Ev.neg hd ?_
     exact r1
   · unfold fH
     refine Ev.bind (kP l e hm hg) ?_
     refine Ev.bind e1 ?_
     refine Ev.pos (by omega) ?_
     refine Ev.pos (by omega) ?_
     refine Ev.neg hd ?_
     exact r2
def eX (x : Int) : List Int := l.getD x.toNat []
theorem sh (x : List Int) (h : x.length ≤ 1048576) : gf x = some x := by
 have _hu := hm
 unfold gf
 rw [if_pos (by omega)]
theorem jT (x : Int) : (eX l x).length ≤ 1048576 := by
 unfold eX
 rw [List.getD_eq_getElem?_getD]
 cases h : l[x.toNat]? with
 | none => exact Nat.zero_le _
 | some s => exact hm.2.1 s (List.mem_of_getElem? h)
section
variable (R : List Int) (hR : R.length ≤ 1048576) (hx : ∀ x ∈ R, 0 ≤ x ∧ x < (l.length : Int))
include hR hx
theorem nl (d : Nat) : ∀ (m : Nat) (acc : List (List Int)), R.length - m = d → m ≤ R.length → acc.length ≤ m → Ev (fun k => dE k acc R (m : Int) l e) (acc ++ (R.drop m).map (eX l)) := by
 induction d with
 | zero =>
  intro m acc h0 h1 h2
  rw [List.drop_eq_nil_of_le (by omega), List.map_nil, List.append_nil]
  exact Ev.step (fun k => by rw [dE]) (Ev.neg (by omega) (Ev.now _))
 | succ d ih =>
  intro m acc h0 h1 h2
  have hmm : m < R.length := by omega
  have h3 := hx R[m] (List.getElem_mem _)
  refine Ev.step (fun k => by rw [dE]) (Ev.pos (by omega) (Ev.pos (by omega) ?_))
  rw [bn R m hmm, aN hmm (by omega), List.drop_eq_getElem_cons hmm, List.map_cons]
  refine Ev.pos h3.1 (Ev.pos h3.2 ?_)
  refine Ev.bindo (ie _ (jT l e hm R[m])) ?_
  refine Ev.pos (by omega) ?_
  have := ih (m + 1) (acc ++ [eX l R[m]]) (by omega) (by omega) (by rw [List.length_append, List.length_singleton]; omega)
  rw [List.append_assoc] at this
  exact this
theorem qg (ok : Bool) (d : Nat) : ∀ (m : Nat) (acc : List (List Int)), R.length - m = d → m ≤ R.length → acc.length ≤ m → Ev (fun k => dy k ok acc R (R.length : Int) (m : Int) l e) (acc ++ (R.drop m).map (eX l), ok) := by
 induction d with
 | zero =>
  intro m acc h0 h1 h2
  rw [List.drop_eq_nil_of_le (by omega), List.map_nil, List.append_nil]
  exact Ev.step (fun k => by rw [dy]) (Ev.neg (by omega) (Ev.now _))
 | succ d ih =>
  intro m acc h0 h1 h2
  have hmm : m < R.length := by omega
  have h3 := hx R[m] (List.getElem_mem _)
  refine Ev.step (fun k => by rw [dy]) (Ev.pos (by omega) (Ev.pos (by omega) (Ev.pos (by omega) ?_)))
  rw [bn R m hmm, aN hmm (by omega), List.drop_eq_getElem_cons hmm, List.map_cons]
  refine Ev.pos h3.1 (Ev.pos h3.2 ?_)
  refine Ev.bindo (sh l e hm _ (jT l e hm R[m])) ?_
  refine Ev.pos (by omega) ?_
  have := ih (m + 1) (acc ++ [eX l R[m]]) (by omega) (by omega) (by rw [List.length_append, List.length_singleton]; omega)
  rw [List.append_assoc] at this
  exact this
end
theorem mY (hx : LexS l) (hg : bL (l.length : Int) none e = true) (a b : List Int) : ∃ (Q : List (List Int)) (ok : Bool), Ev (fun k => dR k l e a b) Q ∧ Ev (fun k => eh k l e a b) (Q, ok) ∧ ok = decide ((Q.length : Int) > 0) ∧ Q.length ≤ 1048576 ∧ ∀ s ∈ Q, s.length ≤ 1048576 := by
 by_cases ca : a ∈ l
 · obtain ⟨i, hi, _, i1, i2⟩ := je l e hm hx a ca
   by_cases cb : b ∈ l
   · obtain ⟨j, hj, _, j1, j2⟩ := je l e hm hx b cb
     obtain ⟨R, ok, r1, r2, r3, r4, r5⟩ := mX l e hm hg i j hi hj
     refine ⟨R.map (eX l), ok, ?_, ?_, ?_, by rw [List.length_map]; exact r4, fun s hs => by obtain ⟨x, _, rfl⟩ := List.mem_map.1 hs; exact jT l e hm x⟩
     · unfold dR
       refine Ev.bind i1 ?_
       refine Ev.bind j1 ?_
       refine Ev.bindo rfl ?_
       refine Ev.neg (by omega) ?_
       refine Ev.step (fun k => by rw [dh]) ?_
       refine Ev.neg (by first | (simp; done) | (simp; omega)) ?_
       refine Ev.bind r1 ?_
       have := nl l e hm R r4 r5 _ 0 [] rfl (Nat.zero_le _) (Nat.zero_le _)
       simpa only [List.nil_append, List.drop_zero, Int.natCast_zero] using this
     · unfold eh
       refine Ev.bindo i2 ?_
       refine Ev.bindo j2 ?_
       refine Ev.pos rfl ?_
       refine Ev.step (fun k => by rw [ef]) ?_
       refine Ev.neg (by simp) ?_
       refine Ev.bind r2 ?_
       have := qg l e hm R r4 r5 ok _ 0 [] rfl (Nat.zero_le _) (Nat.zero_le _)
       simpa only [List.nil_append, List.drop_zero, Int.natCast_zero] using this
     · rw [r3, List.length_map, decide_eq_decide]
       omega
   · obtain ⟨j1, r, j2⟩ := jd l e hm b cb
     refine ⟨[], false, ?_, ?_, rfl, Nat.zero_le _, fun s hs => by cases hs⟩
     · unfold dR
       refine Ev.bind i1 ?_
       refine Ev.bind j1 ?_
       refine Ev.bindo rfl ?_
       refine Ev.neg (by omega) ?_
       refine Ev.step (fun k => by rw [dh]) ?_
       exact Ev.pos (by decide) (Ev.now _)
     · unfold eh
       refine Ev.bindo i2 ?_
       refine Ev.bindo j2 ?_
       refine Ev.pos rfl ?_
       refine Ev.step (fun k => by rw [ef]) ?_
       exact Ev.pos rfl (Ev.now _)
 · obtain ⟨i1, r, i2⟩ := jd l e hm a ca
   have hb : (∃ x, Ev (fun k => dI k l e b) x) ∧ ∃ y, dO l e b = some y := by
     by_cases cb : b ∈ l
     · obtain ⟨j, hj, _, j1, j2⟩ := je l e hm hx b cb
       exact ⟨⟨_, j1⟩, _, j2⟩
     · obtain ⟨j1, r, j2⟩ := jd l e hm b cb
       exact ⟨⟨_, j1⟩, _, j2⟩
   obtain ⟨⟨x, j1⟩, y, j2⟩ := hb
   refine ⟨[], false, ?_, ?_, rfl, Nat.zero_le _, fun s hs => by cases hs⟩
   · unfold dR
     refine Ev.bind i1 ?_
     refine Ev.bind j1 ?_
     refine Ev.bindo rfl ?_
     refine Ev.pos (by decide) ?_
     refine Ev.step (fun k => by rw [dh]) ?_
     exact Ev.pos rfl (Ev.now _)
   · unfold eh
     refine Ev.bindo i2 ?_
     refine Ev.bindo j2 ?_
     refine Ev.neg (by simp) ?_
     refine Ev.step (fun k => by rw [ef]) ?_
     exact Ev.pos rfl (Ev.now _)
end
def dZ (a : Int) (e : List S69) (l : List Int) : Bool := bB 0 (wrap64 (a - 1)) none l && dA e l
def ey (a : Int) (e : List S69) (x y : List Int) : Bool := bW a e && (dZ a e x && dZ a e y)
theorem l4 (a : Int) (e : List S69) (l : List Int) (he : e.length ≤ 1048576) (hl : l.length ≤ 1048576) (hg : bW a e = true) : Ev (fun k => dT k a e l) (dZ a e l) := by
 have h1 := eM hg
 have := lI a e l he hl
 rw [l5 e l _ (fun s hs => (h1.2.2 s hs).2.1)] at this
 exact this
theorem pO (a : Int) (e : List S69) (x y : List Int) (he : e.length ≤ 1048576) (hx : x.length ≤ 1048576) (hy : y.length ≤ 1048576) : Ev (fun k => fY k a e x y) (ey a e x y) := by
 unfold fY gZ ey
 by_cases hg : bW a e = true
 · rw [hg, Bool.true_and]
   refine Ev.bind (a := dZ a e x) ?_ ?_
   · refine Ev.bind (jp a e he) ?_
     refine Ev.pos hg ?_
     exact Ev.bind (l4 a e x he hx hg) (Ev.now _)
   · cases c : dZ a e x with
     | true => exact Ev.pos rfl (Ev.bind (l4 a e y he hy hg) (Ev.now _))
     | false => exact Ev.neg (by decide) (Ev.now _)
 · rw [Bool.eq_false_iff.mpr hg, Bool.false_and]
   refine Ev.bind (a := false) ?_ ?_
   · refine Ev.bind (jp a e he) ?_
     exact Ev.neg hg (Ev.now _)
   · exact Ev.neg (by decide) (Ev.now _)
theorem mZ (a : Int) (e : List S69) (x y : List Int) (he : e.length ≤ 1048576) (hx : x.length ≤ 1048576) (hy : y.length ≤ 1048576) : Ev (fun k => gz k a e x y) (ey a e x y) := by
 unfold gz ey
 refine Ev.bind (lQ _ e he) ?_
 by_cases hg : bW a e = true
 · rw [hg, Bool.true_and]
   refine Ev.pos rfl ?_
   refine Ev.bind (a := dZ a e x) (lK a e x hx hg) ?_
   cases c : dZ a e x with
   | true => exact Ev.pos rfl (Ev.bind (a := dZ a e y) (lK a e y hy hg) (Ev.now _))
   | false => exact Ev.neg (by decide) (Ev.now _)
 · rw [Bool.eq_false_iff.mpr hg, Bool.false_and]
   exact Ev.neg (by decide) (Ev.now _)
theorem m3 (n : Nat) (hn : n ≤ 8) (e : List S69) (lo hi kind : Int) (x y : List Int) : ∃ (Q : List (List Int)) (ok : Bool), Ev (fun k => dR k (bi n e lo hi) (bh (cl e kind) 0 (bi n e lo hi)) x y) Q ∧ Ev (fun k => eh k (bi n e lo hi) (bh (cl e kind) 0 (bi n e lo hi)) x y) (Q, ok) ∧ ok = decide ((Q.length : Int) > 0) ∧ Q.length ≤ 1048576 ∧ ∀ s ∈ Q, s.length ≤ 1048576 :=
 mY _ _ (m4 hn e lo hi kind) (gH hn e lo hi) (sO _ _) x y
theorem m0 (Q : List (List Int)) : gW Q = some (Q, decide ((Q.length : Int) > 0)) := rfl
theorem tA (a0_0 : Int) (l0_1 : List S69) (a1 : Int) (l2 : List Int) (l3 : List Int) (w0_0 : (Lit.int .i64 a0_0).wf = true) (w0_1 : j7 l0_1) (w1 : (Lit.int .i64 a1).wf = true) (w2 : gT l2) (w3 : gT l3) (hn0 : l0_1.length ≤ 1048576) (hl2 : l2.length ≤ 1048576) (hl3 : l3.length ≤ 1048576) : ∃ (q0 : List (List Int)) (q1 : Bool), Ev (fun k => eE k a0_0 l0_1 a1 l2 l3) (q0, q1) ∧ Ev (fun k => eR k a0_0 l0_1 a1 l2 l3) (q0, q1) ∧ (q0.length ≤ 1048576 ∧ ∀ s ∈ q0, s.length ≤ 1048576) := by
 have hs := pO a0_0 l0_1 l2 l3 hn0 hl2 hl3
 have hi := mZ a0_0 l0_1 l2 l3 hn0 hl2 hl3
 have hk := pP a0_0 l0_1 a1 hn0
 have ht := qD a0_0 l0_1 a1 hn0
 unfold iG at ht
 by_cases ca : (bW a0_0 l0_1 && (decide (0 ≤ a1) && decide (a1 ≤ 8))) = true
 · rw [if_pos ca] at ht
   by_cases c : ey a0_0 l0_1 l2 l3 = true
   · have c' := c
     unfold ey at c'
     rw [Bool.and_eq_true, Bool.and_eq_true] at c'
     obtain ⟨hg, hx, hy⟩ := c'
     have h1 := eM hg
     obtain ⟨n, rfl⟩ := Int.eq_ofNat_of_zero_le h1.1
     have hn : n ≤ 8 := by omega
     rw [Int.toNat_natCast] at ht
     obtain ⟨Q, ok, w1_, w2_, w3_, w4_, w5_⟩ := m3 n hn l0_1 a1 (n : Int) 2 l2 l3
     refine ⟨Q, ok, ?_, ?_, w4_, w5_⟩
     · unfold eE
       refine Ev.bind hs ?_
       refine Ev.pos c ?_
       refine Ev.bind hk ?_
       rw [ca]
       refine Ev.step (fun k => by rw [dJ]) ?_
       refine Ev.neg (by decide) ?_
       refine Ev.bind (pN n hn l0_1 hn0 hg _ _) ?_
       refine Ev.bind (pK n hn l0_1 hn0 _ _ _) ?_
       refine Ev.bind w1_ ?_
       refine Ev.bindo (m0 Q) ?_
       rw [w3_]
       exact Ev.now _
     · unfold eR
       refine Ev.bind ht ?_
       refine Ev.pos rfl ?_
       refine Ev.bind hi ?_
       refine Ev.pos c ?_
       exact Ev.bind w2_ (Ev.now _)
   · refine ⟨[], false, ?_, ?_, Nat.zero_le _, fun s hs => by cases hs⟩
     · unfold eE
       refine Ev.bind hs (Ev.neg c ?_)
       refine Ev.step (fun k => by rw [dJ]) ?_
       exact Ev.pos rfl (Ev.now _)
     · unfold eR
       refine Ev.bind ht ?_
       refine Ev.pos rfl ?_
       exact Ev.bind hi (Ev.neg c (Ev.now _))
 · rw [if_neg ca] at ht
   refine ⟨[], false, ?_, ?_, Nat.zero_le _, fun s hs => by cases hs⟩
   · unfold eE
     refine Ev.bind hs ?_
     cases c : ey a0_0 l0_1 l2 l3 with
     | true =>
       refine Ev.pos rfl (Ev.bind hk ?_)
       rw [Bool.eq_false_iff.mpr ca]
       refine Ev.step (fun k => by rw [dJ]) ?_
       exact Ev.pos rfl (Ev.now _)
     | false =>
       refine Ev.neg (by decide) ?_
       refine Ev.step (fun k => by rw [dJ]) ?_
       exact Ev.pos rfl (Ev.now _)
   · unfold eR
     refine Ev.bind ht ?_
     exact Ev.neg (by decide) (Ev.now _)
set_option maxHeartbeats 1000000 in
theorem Law_FnExactAddWalk (a0_0 : Int) (A0_1 : Option Addr) (ca0_1 : Nat) (l0_1 : List (S69)) (a1 : Int) (A2 : Option Addr) (ca2 : Nat) (l2 : List Int) (A3 : Option Addr) (ca3 : Nat) (l3 : List Int) (w : World) (hr0_1 : Kd.C k69 w A0_1 l0_1.length l0_1) (hc0_1 : l0_1.length ≤ ca0_1) (hr2 : Kd.C (Kd.int .i64) w A2 l2.length l2) (hc2 : l2.length ≤ ca2) (hr3 : Kd.C (Kd.int .i64) w A3 l3.length l3) (hc3 : l3.length ≤ ca3) (w0_0 : (Lit.int .i64 a0_0).wf = true) (w0_1 : j7 l0_1) (w1 : (Lit.int .i64 a1).wf = true) (w2 : gT l2) (w3 : gT l3) :
   Calls Tryz.prog 7 #[.agg #[.int .i64 a0_0, .slice A0_1 l0_1.length ca0_1], .int .i64 a1, .slice A2 l2.length ca2, .slice A3 l3.length ca3] w fun e w' => e = .returned (.bool true) ∧ Below w.heap.size w w' := by
 by_cases c0 : 1048576 < (l2.length : Int)
 · exact pI a0_0 A0_1 ca0_1 l0_1 a1 A2 ca2 l2 A3 ca3 l3 w hr0_1 hc0_1 hr2 hc2 hr3 hc3 c0
 have hl2 : l2.length ≤ 1048576 := by omega
 by_cases c1 : 1048576 < (l3.length : Int)
 · exact pH a0_0 A0_1 ca0_1 l0_1 a1 A2 ca2 l2 A3 ca3 l3 w hr0_1 hc0_1 hr2 hc2 hr3 hc3 c0 c1
 have hl3 : l3.length ≤ 1048576 := by omega
 obtain ⟨t0, h0, m2⟩ := nb a0_0 l0_1 w0_1.1
 by_cases c2 : t0 < 0
 · exact pG a0_0 A0_1 ca0_1 l0_1 a1 A2 ca2 l2 A3 ca3 l3 t0 w hr0_1 hc0_1 hr2 hc2 hr3 hc3 c0 c1 c2 h0
 have hn0 := m2.resolve_left c2
 obtain ⟨q0, q1, es, ei, hb1⟩ := tA a0_0 l0_1 a1 l2 l3 w0_0 w0_1 w1 w2 w3 hn0 hl2 hl3
 obtain ⟨k1, h1⟩ := Ev.rounds (m8 a0_0 l0_1 hn0)
 obtain ⟨k2, h2⟩ := Ev.rounds (kn l2 hl2)
 obtain ⟨k3, h3⟩ := Ev.rounds (kn l3 hl3)
 obtain ⟨k4, h4⟩ := Ev.rounds (es)
 obtain ⟨k5, h5⟩ := Ev.rounds (ei)
 obtain ⟨k6, h6⟩ := Ev.rounds (rQ q0 hb1.1 hb1.2)
 obtain ⟨k7, h7⟩ := Ev.rounds (rT a0_0 l0_1 hn0)
 obtain ⟨k8, h8⟩ := Ev.rounds (jG l2 hl2)
 obtain ⟨k9, h9⟩ := Ev.rounds (jG l3 hl3)
 obtain ⟨kk0, mk0_0, h10, nkk0, pkk0⟩ := po a0_0 l0_1 hn0
 obtain ⟨kk1, mk1_0, k11, h11, nkk1, pkk1⟩ := pn l2 kk0 hl2 ⟨by omega, pkk0⟩
 obtain ⟨kk2, mk2_0, k12, h12, nkk2, pkk2⟩ := pm l3 kk1 hl3 ⟨by omega, pkk1⟩
 obtain ⟨kk3, mk3_0, h13, k14, h14, nkk3⟩ := pg q0 hb1
 exact pF a0_0 A0_1 ca0_1 l0_1 a1 A2 ca2 l2 A3 ca3 l3 k1 k2 k3 k4 k5 k6 k7 k8 k9 k11 k12 k14 t0 q0 q1 kk0 mk0_0 kk1 mk1_0 kk2 mk2_0 kk3 mk3_0 w hr0_1 hc0_1 hr2 hc2 hr3 hc3 c0 c1 c2 h0 h1 h2 h3 h4 h5 h6 h7 h8 h9 h10 h11 h12 h13 h14 nkk2 nkk3
end Go.Proofs.YtadjbmcfgjmhkaaGreat.P
