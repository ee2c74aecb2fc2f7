/- The spaces of independent sets: when two sets differ by a jump, a slide or an adding, and the steps of a list of sets, as both sides tell them. -/
import Derived.Test.YtadjbmcfgjmhkaaGreatJumpWalkG28
namespace Go.Proofs.YtadjbmcfgjmhkaaGreat.P
open Go.RowKit YtadjbmcfgjmhkaaGreatW.PrintWords Go.Proofs.YtadjbmcfgjmhkaaGreatW.PrintLast Go.Proofs.YtadjbmcfgjmhkaaGreatW.PrintMore
theorem kb (n : Int) (h0 : 0 ≤ n) (h1 : n < 2 ^ 8) : IntKind.u64.wrap n = n := by
 simp [IntKind.wrap, IntKind.bits, IntKind.signed]
 omega
theorem jB (n y : Nat) (hn : n < 256) (hy : y < 8) : aI (n : Int) (y : Int) = n.testBit y := by
 unfold aI cN
 have e : (n : Int) / 2 ^ min (y : Int).toNat IntKind.u64.bits = ((n / 2 ^ y : Nat) : Int) := by
  rw [Int.toNat_natCast, Nat.min_eq_left (by show y ≤ 64; omega)]
  simp
 rw [e, show (1 : Int) = ((1 : Nat) : Int) from rfl, (bits_nat .u64 8 (by decide) kb (n / 2 ^ y) 1 (Nat.lt_of_le_of_lt (Nat.div_le_self _ _) hn) (by decide)).1, Nat.and_one_is_mod, Nat.testBit_eq_decide_div_mod_eq, Bool.eq_iff_iff, beq_iff_eq, decide_eq_true_eq]
 omega
theorem py (n m : Nat) (hn : n < 256) (hm : m < 256) : ∃ q : Nat, dc (n : Int) (m : Int) = (q : Int) ∧ q < 256 ∧ ∀ y : Nat, q.testBit y = (n.testBit y && !m.testBit y) ∨ 8 ≤ y := by
 have h1 : (BitVec.ofNat 64 n &&& ~~~ BitVec.ofNat 64 m).toNat ≤ n := by
   rw [BitVec.toNat_and, BitVec.toNat_ofNat, Nat.mod_eq_of_lt (by omega)]
   exact Nat.and_le_left
 refine ⟨(BitVec.ofNat 64 n &&& ~~~ BitVec.ofNat 64 m).toNat, ?_, by omega, fun y => ?_⟩
 · unfold dc
   simp only [bits, BitVec.ofInt_natCast]
   exact kb _ (Int.natCast_nonneg _) (by
     have h2 : (BitVec.ofNat IntKind.u64.bits n &&& ~~~ BitVec.ofNat IntKind.u64.bits m).toNat ≤ n := h1
     have h3 : (2 : Int) ^ 8 = 256 := by decide
     rw [h3]
     omega)
 · by_cases hy : 8 ≤ y
   · exact .inr hy
   · left
     rw [BitVec.testBit_toNat, BitVec.getLsbD_and, BitVec.getLsbD_not, BitVec.getLsbD_ofNat, BitVec.getLsbD_ofNat]
     have : y < 64 := by omega
     simp [this]
theorem pz {b c : Int} (hb : 0 ≤ b ∧ b < 256) (hc : 0 ≤ c ∧ c < 256) : (0 ≤ dc b c ∧ dc b c < 256) ∧ ∀ y, 0 ≤ y → y < 8 → aI (dc b c) y = (aI b y && !aI c y) := by
 obtain ⟨n, rfl⟩ := Int.eq_ofNat_of_zero_le hb.1
 obtain ⟨m, rfl⟩ := Int.eq_ofNat_of_zero_le hc.1
 obtain ⟨q, h1, h2, h3⟩ := py n m (by omega) (by omega)
 rw [h1]
 refine ⟨by omega, fun y h0 h8 => ?_⟩
 obtain ⟨z, rfl⟩ := Int.eq_ofNat_of_zero_le h0
 rw [jB q z h2 (by omega), jB n z (by omega) (by omega), jB m z (by omega) (by omega)]
 rcases h3 z with h | h
 · exact h
 · omega
theorem iA {x : List Int} (hx : SetN 8 x) (z : Int) (h0 : 0 ≤ z) (h8 : z < 8) : aI (bf 0 x) z = decide (z ∈ x) := by
 have h1 := (hx.code (by decide)).2
 rw [Bool.eq_iff_iff, decide_eq_true_eq]
 constructor
 · intro h
   rw [← h1]
   exact (db _ _ _ _).2 ⟨by omega, h⟩
 · intro h
   rw [← h1] at h
   exact ((db _ _ _ _).1 h).2
theorem o8 {x : List Int} (hx : SetN 8 x) (y : List Int) : SetN 8 (bp x y) := ⟨hx.1.filter _, fun z hz => hx.2 z (List.mem_filter.1 hz).1⟩
theorem px {x y : List Int} (hx : SetN 8 x) (hy : SetN 8 y) : bX (dc (bf 0 x) (bf 0 y)) = bp x y ∧ (0 ≤ dc (bf 0 x) (bf 0 y) ∧ dc (bf 0 x) (bf 0 y) < 256) := by
 have h1 := (hx.code (by decide)).1
 have h2 := (hy.code (by decide)).1
 have h3 := pz (b := bf 0 x) (c := bf 0 y) (by omega) (by omega)
 refine ⟨?_, h3.1⟩
 refine ld (g9 _ _ _) (o8 hx y).1 fun z => ?_
 unfold bp bX
 rw [db, List.mem_filter]
 constructor
 · rintro ⟨h4, h5⟩
   rw [h3.2 z (by omega) (by omega), iA hx z (by omega) (by omega), iA hy z (by omega) (by omega), Bool.and_eq_true, decide_eq_true_eq] at h5
   exact h5
 · rintro ⟨h4, h5⟩
   have h6 := hx.2 z h4
   refine ⟨by omega, ?_⟩
   rw [h3.2 z (by omega) (by omega), iA hx z (by omega) (by omega), iA hy z (by omega) (by omega), ag h4, Bool.true_and]
   exact h5
theorem gj {x : List Int} (hx : SetN 8 x) : x.length ≤ 8 := hx.len
theorem pd {x y : List Int} (hx : SetN 8 x) (hy : SetN 8 y) : Ev (fun k => fx k x y) (dc (bf 0 x) (bf 0 y), dc (bf 0 y) (bf 0 x)) := by
 have h1 := gj hx
 have h2 := gj hy
 unfold fx
 refine Ev.bind (jP x (by omega) fun z hz => hx.2 z hz) ?_
 refine Ev.bind (jP y (by omega) fun z hz => hy.2 z hz) ?_
 exact Ev.now _
theorem kH {x y : List Int} (hx : SetN 8 x) (hy : SetN 8 y) : dN (dc (bf 0 x) (bf 0 y)) = some ((bp x y).length : Int) := by
 have h1 := px hx hy
 rw [kI h1.2.1 h1.2.2, ← h1.1]
theorem mr (n : Nat) : ((n : Int) == 1) = (n == 1) := by rw [Bool.eq_iff_iff, beq_iff_eq, beq_iff_eq]; omega
theorem qb {x y : List Int} (hx : SetN 8 x) (hy : SetN 8 y) : Ev (fun k => ee k x y) (cA x y) := by
 unfold ee cA
 refine Ev.bind (pd hx hy) ?_
 refine Ev.bindo (kH hx hy) ?_
 by_cases c : (bp x y).length = 1
 · rw [beq_iff_eq.mpr c, Bool.true_and]
   refine Ev.pos (by omega) ?_
   refine Ev.bindo (kH hy hx) ?_
   rw [← mr]
   exact Ev.now _
 · rw [beq_eq_false_iff_ne.mpr c, Bool.false_and]
   exact Ev.neg (by omega) (Ev.now _)
theorem pc (es : List S69) (a b : Int) : jj es a b = cF es a b := by
 unfold jj cF
 rfl
theorem kV (l : List Int) : rd l 0 = l.headD 0 := by cases l <;> rfl
theorem o7 (x y : List Int) (hx : x.length ≤ 1048576) (hy : y.length ≤ 1048576) (d : Nat) : ∀ (m : Nat) (acc : List Int), x.length - m = d → m ≤ x.length → acc.length ≤ m → Ev (fun k => cU k x y acc (m : Int)) (acc ++ bp (x.drop m) y) := by
 induction d with
 | zero =>
  intro m acc h0 h1 h2
  rw [List.drop_eq_nil_of_le (by omega), show bp [] y = [] from rfl, List.append_nil]
  refine Ev.step (fun k => by rw [cU]) (Ev.neg (by omega) (Ev.now _))
 | succ d ih =>
  intro m acc h0 h1 h2
  have hm : m < x.length := by omega
  refine Ev.step (fun k => by rw [cU]) (Ev.pos (by omega) (Ev.pos (by omega) ?_))
  rw [bk x m hm, aM hm (by omega)]
  refine Ev.bind (p7 y _ hy) ?_
  rw [List.drop_eq_getElem_cons hm]
  by_cases c : x[m] ∈ y
  · refine Ev.pos (ag c) ?_
    have := ih (m + 1) acc (by omega) (by omega) (by omega)
    have e : bp (x[m] :: x.drop (m + 1)) y = bp (x.drop (m + 1)) y := by unfold bp; rw [List.filter_cons_of_neg (by simp [c])]
    rw [e]
    exact this
  · refine Ev.neg (by simp [c]) (Ev.pos (by omega) ?_)
    have := ih (m + 1) (acc ++ [x[m]]) (by omega) (by omega) (by rw [List.length_append, List.length_singleton]; omega)
    have e : bp (x[m] :: x.drop (m + 1)) y = x[m] :: bp (x.drop (m + 1)) y := by unfold bp; rw [List.filter_cons_of_pos (by simp [c])]
    rw [e]
    rw [List.append_assoc] at this
    exact this
theorem lm (x y : List Int) (hx : x.length ≤ 1048576) (hy : y.length ≤ 1048576) : Ev (fun k => eY k x y) (bp x y) := by
 have := o7 x y hx hy x.length 0 [] (by omega) (by omega) (by simp)
 unfold eY
 simpa only [List.nil_append, List.drop_zero, Int.natCast_zero] using this
def cl (es : List S69) (kind : Int) (x y : List Int) : Bool := if kind = 2 then iD x y else if kind = 1 then cA x y else kE es x y
theorem ln (x y : List Int) : (bp x y).length ≤ x.length := List.length_filter_le _ _
theorem nj (a : Int) (es : List S69) (hl : es.length ≤ 1048576) (kind : Int) (x y : List Int) (hx : x.length ≤ 1048576) (hy : y.length ≤ 1048576) : Ev (fun k => ey k a es kind x y) (cl es kind x y) := by
 have h1 := ln x y
 have h2 := ln y x
 unfold ey cl
 refine Ev.bind (lm x y hx hy) ?_
 refine Ev.bind (lm y x hy hx) ?_
 by_cases c : kind = 2
 · rw [if_pos c]
   refine Ev.pos c ?_
   unfold iD
   rw [b4 (by omega) (by omega), show ((bp x y).length : Int) + ((bp y x).length : Int) = (((bp x y).length + (bp y x).length : Nat) : Int) by omega, mr]
   exact Ev.now _
 · rw [if_neg c]
   refine Ev.neg c ?_
   unfold kE cA
   by_cases c1 : (bp x y).length = 1
   · rw [beq_iff_eq.mpr c1, Bool.true_and]
     refine Ev.pos (by omega) ?_
     by_cases c2 : (bp y x).length = 1
     · rw [beq_iff_eq.mpr c2, Bool.true_and]
       refine Ev.pos (by omega) ?_
       by_cases c3 : kind = 1
       · rw [if_pos c3]
         exact Ev.pos c3 (Ev.now _)
       · rw [if_neg c3]
         refine Ev.neg c3 (Ev.pos (by omega) (Ev.pos (by omega) ?_))
         rw [kV, kV, pc]
         exact Ev.bind (lr a es _ _ hl) (Ev.now _)
     · rw [beq_eq_false_iff_ne.mpr c2, Bool.false_and, ite_self]
       exact Ev.neg (by omega) (Ev.now _)
   · rw [beq_eq_false_iff_ne.mpr c1, Bool.false_and, Bool.false_and, ite_self]
     exact Ev.neg (by omega) (Ev.now _)
section
variable (a : Int) (es : List S69) (kind : Int) (ls : List (List Int)) (st : List Int → List Int → Bool) (hls : ls.length ≤ 1024) (hst : ∀ x ∈ ls, ∀ y ∈ ls, Ev (fun k => ey k a es kind x y) (st x y)) (R : List S69) (hR : R.length ≤ 1048576)
include hls hst hR
theorem ow (i : Nat) (hi : i < ls.length) (hnext : ∀ acc, acc ++ bg st (i + 1) (ls.drop (i + 1)) = R → Ev (fun k => dj k kind ls ((i + 1 : Nat) : Int) a es ls acc) (ls, R)) (d : Nat) :
  ∀ (m : Nat) (acc : List S69), ls.length - m = d → m ≤ ls.length → acc ++ bY st ls[i] i m (ls.drop m) ++ bg st (i + 1) (ls.drop (i + 1)) = R → Ev (fun k => di k kind ls (i : Int) (m : Int) a es ls acc) (ls, R) := by
 induction d with
 | zero =>
  intro m acc h0 h1 h2
  rw [List.drop_eq_nil_of_le (show ls.length ≤ m by omega), bY, List.append_nil] at h2
  refine Ev.step (fun k => by rw [di]) (Ev.neg (by omega) ?_)
  rw [aM hi (by omega)]
  exact hnext acc h2
 | succ d ih =>
  intro m acc h0 h1 h2
  have hm : m < ls.length := by omega
  have hal : acc.length ≤ 1048576 := by
   have := congrArg List.length h2
   simp only [List.length_append] at this
   omega
  rw [List.drop_eq_getElem_cons hm, bY] at h2
  refine Ev.step (fun k => by rw [di]) (Ev.pos (by omega) (Ev.pos (by omega) (Ev.pos (by omega) (Ev.pos (by omega) ?_))))
  rw [bU ls i hi, bU ls m hm, aM hm (by omega)]
  refine Ev.bind (hst _ (List.getElem_mem _) _ (List.getElem_mem _)) ?_
  cases c : st ls[i] ls[m] with
  | true =>
   rw [c, if_pos rfl] at h2
   refine Ev.pos rfl (Ev.pos (by omega) ?_)
   exact ih (m + 1) _ (by omega) (by omega) (by simpa only [List.append_assoc] using h2)
  | false =>
   rw [c, if_neg (by decide), List.nil_append] at h2
   exact Ev.neg (by decide) (ih (m + 1) _ (by omega) (by omega) h2)
theorem sR (d : Nat) : ∀ (i : Nat) (acc : List S69), ls.length - i = d → i ≤ ls.length → acc ++ bg st i (ls.drop i) = R → Ev (fun k => dj k kind ls (i : Int) a es ls acc) (ls, R) := by
 induction d with
 | zero =>
  intro i acc h0 h1 h2
  rw [List.drop_eq_nil_of_le (show ls.length ≤ i by omega), bg, List.append_nil] at h2
  refine Ev.step (fun k => by rw [dj]) (Ev.neg (by omega) ?_)
  rw [h2]
  exact Ev.now _
 | succ d ih =>
  intro i acc h0 h1 h2
  have hi : i < ls.length := by omega
  rw [List.drop_eq_getElem_cons hi, bg, ← List.append_assoc] at h2
  refine Ev.step (fun k => by rw [dj]) (Ev.pos (by omega) ?_)
  rw [aM hi (by omega)]
  exact ow a es kind ls st hls hst R hR i hi (fun acc' h => ih (i + 1) acc' (by omega) (by omega) h) _ (i + 1) acc rfl (by omega) h2
end
theorem pO (a : Int) (es : List S69) (kind : Int) (ls : List (List Int)) (st : List Int → List Int → Bool) (hls : ls.length ≤ 1024) (hst : ∀ x ∈ ls, ∀ y ∈ ls, Ev (fun k => ey k a es kind x y) (st x y)) : Ev (fun k => eX k a es kind ls) (ls, bg st 0 ls) := by
 have h1 := jS st ls 0
 have h4 : ls.length * ls.length ≤ 1024 * 1024 := Nat.mul_le_mul hls hls
 have := sR a es kind ls st hls hst (bg st 0 ls) (by omega) ls.length 0 [] (by omega) (by omega) (by rw [List.drop_zero, List.nil_append])
 unfold eX
 simpa only [Int.natCast_zero] using this
theorem rS {α β : Type} (t : List α) (f : Nat → α → Option β) (g : α → β) (h : ∀ x ∈ t, Ev (fun k => f k x) (g x)) : ∃ K, ∀ k, K ≤ k → ∀ x ∈ t, f k x = some (g x) := by
 induction t with
 | nil => exact ⟨0, fun _ _ x hx => by cases hx⟩
 | cons a t ih =>
  obtain ⟨K, hK⟩ := ih fun x hx => h x (List.mem_cons_of_mem _ hx)
  obtain ⟨K', hK'⟩ := h a (List.mem_cons_self ..)
  refine ⟨max K K', fun k hk x hx => ?_⟩
  rcases List.mem_cons.1 hx with rfl | hx
  · exact hK' k (by omega)
  · exact hK k (by omega) x hx
theorem nV (f : Nat → List Int → List Int → Option Bool) (st : List Int → List Int → Bool) (t : List (List Int)) (hl : t.length ≤ 1024) (h : ∀ x ∈ t, ∀ y ∈ t, Ev (fun k => f k x y) (st x y)) (hs : bJ t = t) : Ev (fun k => fh (iC (f k) st t) st t) (t, bg st 0 t, true) := by
 obtain ⟨K, hK⟩ := rS (t.flatMap fun x => t.map fun y => (x, y)) (fun k p => f k p.1 p.2) (fun p => st p.1 p.2) fun p hp => by
  obtain ⟨x, hx, hp⟩ := List.mem_flatMap.1 hp
  obtain ⟨y, hy, rfl⟩ := List.mem_map.1 hp
  exact h x hx y hy
 refine ⟨K, fun k hk => ?_⟩
 show fh _ _ _ = _
 unfold fh
 rw [if_pos ⟨hl, ag fun x hx y hy => hK k hk (x, y) (List.mem_flatMap.2 ⟨x, hx, List.mem_map.2 ⟨y, hy, rfl⟩⟩)⟩, hs]
theorem q7 {n : Nat} (hn : n ≤ 8) (e : List S69) (lo hi : Int) : bJ (bh n e lo hi) = bh n e lo hi :=
 ly _ _ (iV _ (jC hn e lo hi).nodup) (jC hn e lo hi) fun s => g8 _ _
theorem gH {n : Nat} (hn : n ≤ 8) {e : List S69} {lo hi : Int} {s : List Int} (h : s ∈ bh n e lo hi) : SetN 8 s := ((q8 hn e lo hi s).1 h).1.wide hn
def b6 : Nat → Int → List Int
 | 0, _ => []
 | n + 1, k => k :: b6 n (wrap64 (k + 1))
def cI : Nat → Int → Int
 | 0, k => k
 | n + 1, k => cI n (wrap64 (k + 1))
theorem om (n : Nat) : ∀ k, (b6 n k).length = n := by
 induction n with
 | zero => intro k; rfl
 | succ n ih => intro k; simp [b6, ih]
theorem gI (n : Nat) : ∀ k, 0 ≤ k → k + (n : Int) ≤ 4611686018427387904 → cI n k = k + (n : Int) := by
 induction n with
 | zero => intro k h1 h2; simp [cI]
 | succ n ih =>
  intro k h1 h2
  have e1 : wrap64 (k + 1) = k + 1 := b4 (by omega) (by omega)
  rw [cI, e1, ih (k + 1) (by omega) (by omega)]
  omega
theorem pn (d : Nat) : ∀ (done rest : List Int) (c : Int), rest.length = d → done.length + d ≤ 1048576 →
  Ev (fun k => cP k (done ++ rest) c (done.length : Int)) (cI d c, done ++ b6 d c) := by
 induction d with
 | zero =>
  intro done rest c h0 h1
  refine Ev.step (fun k => by rw [cP]) ?_
  have : rest = [] := List.eq_nil_of_length_eq_zero h0
  subst this
  refine Ev.neg (by simp) ?_
  exact Ev.now _
 | succ d ih =>
  intro done rest c h0 h1
  obtain ⟨x, t, rfl⟩ : ∃ x t, rest = x :: t := by
   cases rest with
   | nil => simp at h0
   | cons x t => exact ⟨x, t, rfl⟩
  have h2 : t.length = d := by simpa using h0
  refine Ev.step (fun k => by rw [cP]) ?_
  refine Ev.pos (by simp; omega) (Ev.pos (by omega) ?_)
  have e : (done ++ x :: t).set ((done.length : Int)).toNat c = (done ++ [c]) ++ t := by
   rw [Int.toNat_natCast]
   simp
  have hw : wrap64 ((done.length : Int) + 1) = ((done ++ [c]).length : Int) := by
   rw [List.length_append, List.length_singleton]
   exact aM (n := done.length + 1) (by omega) (by omega)
  rw [e, hw]
  have := ih (done ++ [c]) t (wrap64 (c + 1)) h2 (by rw [List.length_append, List.length_singleton]; omega)
  simpa only [b6, cI, List.append_assoc, List.singleton_append] using this
theorem lv (l : List Int) (c : Int) (hl : l.length ≤ 1048576) : Ev (fun k => dw k l c) (cI l.length c, b6 l.length c) := by
 unfold dw
 have := pn l.length [] l c rfl (by simpa using hl)
 simpa only [List.nil_append, List.length_nil, Int.ofNat_eq_natCast, Int.natCast_zero] using this
theorem qO (d : Nat) : ∀ (done : List Int) (c : Int), done.length + d ≤ 1048576 →
  Ev (fun k => d8 k (done ++ b6 d c) c (done.length : Int)) (cI d c) := by
 induction d with
 | zero =>
  intro done c h1
  refine Ev.step (fun k => by rw [d8]) ?_
  refine Ev.neg (by simp [b6]) ?_
  exact Ev.now _
 | succ d ih =>
  intro done c h1
  refine Ev.step (fun k => by rw [d8]) ?_
  have hlen : (done ++ b6 (d + 1) c).length = done.length + (d + 1) := by rw [List.length_append, om]
  refine Ev.pos (by rw [hlen]; omega) (Ev.pos (by omega) ?_)
  have hr : rd (done ++ b6 (d + 1) c) (done.length : Int) = c := by
   rw [bk _ _ (by rw [hlen]; omega)]
   simp [b6]
  refine Ev.pos hr ?_
  have hw : wrap64 ((done.length : Int) + 1) = ((done ++ [c]).length : Int) := by
   rw [List.length_append, List.length_singleton]
   exact aM (n := done.length + 1) (by omega) (by omega)
  rw [hw]
  have := ih (done ++ [c]) (wrap64 (c + 1)) (by rw [List.length_append, List.length_singleton]; omega)
  simpa only [b6, cI, List.append_assoc, List.singleton_append] using this
theorem qP (n : Nat) (c : Int) (hn : n ≤ 1048576) : Ev (fun k => gr k (b6 n c) c) (cI n c) := by
 unfold gr
 have := qO n [] c (by simpa using hn)
 simpa only [List.nil_append, List.length_nil, Int.ofNat_eq_natCast, Int.natCast_zero] using this
theorem ol (n : Nat) : ∀ k, cy n k = b6 n k := by
 induction n with
 | zero => intro k; rfl
 | succ n ih => intro k; simp only [cy, b6, ih]
theorem jG (n : Nat) : ∀ k, cH n k = cI n k := by
 induction n with
 | zero => intro k; rfl
 | succ n ih => intro k; simp only [cH, cI, ih]
theorem mc (n : Nat) (k : Int) (hn : n ≤ 1048576) (h0 : 0 ≤ k) (h1 : k ≤ 2305843009213693952) : ¬ cI n k < 0 := by rw [gI n k h0 (by omega)]; omega
theorem pk (l : List (List Int)) : ∀ (k : Int), (∀ s ∈ l, s.length ≤ 1048576) → 0 ≤ k → k + 1048576 * (l.length : Int) ≤ 2305843009213693952 → 0 ≤ (bG l k).1 ∧ (bG l k).1 ≤ k + 1048576 * (l.length : Int) := by
 induction l with
 | nil => intro k _ h0 h1; simp only [bG, List.length_nil]; omega
 | cons s t ih =>
  intro k hs h0 h1
  have h2 := hs s (.head _)
  rw [List.length_cons] at h1 ⊢
  have e1 : cH s.length k = k + (s.length : Int) := by rw [jG, gI s.length k h0 (by omega)]
  simp only [bG, e1]
  have := ih (k + (s.length : Int)) (fun q hq => hs q (.tail _ hq)) (by omega) (by omega)
  omega
theorem pm (l : List (List Int)) (k : Int) : gp l k = some ((bG l k).1, (bG l k).2) := rfl
theorem pi (l : List (List Int)) (h0 : l.length ≤ 1048576) (h : ∀ s ∈ l, s.length ≤ 1048576) : ¬ (bG l 1).1 < 0 := by
 have h1 := pk l 1 h (by omega) (by omega)
 omega
theorem pq (a : Int) (l : List S69) (h : l.length ≤ 1048576) : ∃ k b, gq a l 1 = some (k, b) ∧ ¬ k < 0 ∧ k ≤ 2251799813685248 := ⟨_, _, pr a l 1, pu l h, by rw [lw l 1 (by omega) (by omega)]; omega⟩
theorem pp (l : List Int) (c : Int) (h : l.length ≤ 1048576) (hc : 0 ≤ c ∧ c ≤ 2251799813685248) : ∃ k b n, dw n l c = some (k, b) ∧ ¬ k < 0 ∧ k ≤ 2305843009213693952 := by
 obtain ⟨n, hn⟩ := Ev.rounds (lv l c h)
 exact ⟨_, _, n, hn, mc _ _ h hc.1 (by omega), by rw [gI l.length c hc.1 (by omega)]; omega⟩
theorem po (l : List Int) (c : Int) (h : l.length ≤ 1048576) (hc : 0 ≤ c ∧ c ≤ 2305843009213693952) : ∃ k b n, dw n l c = some (k, b) ∧ ¬ k < 0 ∧ k ≤ 4611686018427387904 := by
 obtain ⟨n, hn⟩ := Ev.rounds (lv l c h)
 exact ⟨_, _, n, hn, mc _ _ h hc.1 (by omega), by rw [gI l.length c hc.1 (by omega)]; omega⟩
theorem qM (done : List (List Int)) : ∀ (t : List (List Int)) (k : Int), (∀ s ∈ t, s.length ≤ 1048576) → 0 ≤ k → k + 1048576 * (t.length : Int) ≤ 2305843009213693952 → done.length + t.length ≤ 1048576 → Ev (fun n => d7 n (done ++ (bG t k).2) k (done.length : Int)) (bG t k).1 := by
 intro t
 induction t generalizing done with
 | nil =>
  intro k _ h0 h1 h2
  refine Ev.step (fun n => by rw [d7]) (Ev.neg (by simp [bG]) ?_)
  exact Ev.now _
 | cons s t ih =>
  intro k hs h0 h1 h2
  have h3 := hs s (.head _)
  rw [List.length_cons] at h1 h2
  have e1 : cH s.length k = k + (s.length : Int) := by rw [jG, gI s.length k h0 (by omega)]
  simp only [bG, e1]
  have hlen : done.length < (done ++ cy s.length k :: (bG t (k + (s.length : Int))).2).length := by simp
  refine Ev.step (fun n => by rw [d7]) (Ev.pos (by omega) (Ev.pos (by omega) ?_))
  rw [bU _ done.length hlen, List.getElem_append_right (au _)]
  simp only [Nat.sub_self, List.getElem_cons_zero]
  have hh := qP s.length k h3
  rw [← ol, ← jG, e1] at hh
  refine Ev.bind hh (Ev.neg (by omega) ?_)
  have := ih (done ++ [cy s.length k]) (k + (s.length : Int)) (fun q hq => hs q (.tail _ hq)) (by omega) (by omega) (by simp; omega)
  rw [List.append_assoc, List.singleton_append] at this
  have ew : wrap64 ((done.length : Int) + 1) = ((done ++ [cy s.length k]).length : Int) := by
   rw [List.length_append, List.length_singleton]; unfold wrap64; omega
  rw [ew]
  exact this
theorem qN (t : List (List Int)) (h : ∀ s ∈ t, s.length ≤ 1048576) (hl : t.length ≤ 1048576) : Ev (fun n => fu n (bG t 1).2 1) (bG t 1).1 := by
 have := qM [] t 1 h (by omega) (by omega) (by simpa using hl)
 simpa [fu] using this
theorem pj (l : List (List Int)) (h : l.length ≤ 1048576 ∧ ∀ s ∈ l, s.length ≤ 1048576) : ∃ k b, gp l 1 = some (k, b) ∧ ∃ m, fu m b 1 = some k ∧ ¬ k < 0 := by
 obtain ⟨m, hm⟩ := Ev.rounds (qN l h.2 h.1)
 exact ⟨_, _, pm l 1, m, hm, pi l h.1 h.2⟩
def iJ (a : Int) (e : List S69) (k0 lo hi kind : Int) : List (List Int) × List S69 × Bool :=
 if (bP a e && (decide (0 ≤ k0) && decide (k0 ≤ 8))) = true then (bh a.toNat e lo hi, bg (cl e kind) 0 (bh a.toNat e lo hi), true) else ([], [], false)
theorem pM (n : Nat) (hn : n ≤ 8) (e : List S69) (he : e.length ≤ 1048576) (lo hi kind : Int) : Ev (fun k => eX k (n : Int) e kind (bh n e lo hi)) (bh n e lo hi, bg (cl e kind) 0 (bh n e lo hi)) := by
 have h2 := jD hn e lo hi
 exact pO _ e kind _ _ (by omega) fun x hx y hy => nj _ e he kind x y (by have := gj (gH hn hx); omega) (by have := gj (gH hn hy); omega)
theorem ql (n : Nat) (hn : n ≤ 8) (e : List S69) (lo hi kind : Int) (f : Nat → List Int → List Int → Option Bool) (h : ∀ x y, SetN 8 x → SetN 8 y → Ev (fun k => f k x y) (cl e kind x y)) : Ev (fun k => fh (iC (f k) (cl e kind) (bh n e lo hi)) (cl e kind) (bh n e lo hi)) (bh n e lo hi, bg (cl e kind) 0 (bh n e lo hi), true) := by
 have h2 := jD hn e lo hi
 exact nV f _ _ (by omega) (fun x hx y hy => h x y (gH hn hx) (gH hn hy)) (q7 hn e lo hi)
theorem km (e : List S69) : cl e 1 = cA := by funext x y; unfold cl; rw [if_neg (by decide), if_pos rfl]
theorem qG (a : Int) (e : List S69) (k0 : Int) (he : e.length ≤ 1048576) : Ev (fun k => gC k a e k0) (iJ a e k0 k0 k0 1) := by
 unfold gC iJ
 refine Ev.bind (qq a e k0 he) ?_
 unfold ij
 by_cases c : (bP a e && (decide (0 ≤ k0) && decide (k0 ≤ 8))) = true
 · rw [if_pos c, if_pos c]
   have hg := ((Bool.and_eq_true _ _).mp c).1
   have h1 := d5 hg
   obtain ⟨n, rfl⟩ := Int.eq_ofNat_of_zero_le h1.1
   refine Ev.pos rfl ?_
   rw [Int.toNat_natCast]
   have := ql n (by omega) e k0 k0 1 (fun k => ee k) (fun x y hx hy => by rw [km]; exact qb hx hy)
   rw [km] at this ⊢
   exact this
 · rw [if_neg c, if_neg c]
   exact Ev.neg (by decide) (Ev.now _)
theorem qV (n : Int) (l : List S69) : ∀ p, (∀ e ∈ l, 0 ≤ e.f0 ∧ e.f0 < e.f1 ∧ e.f1 < n) → l.Pairwise (fun a b => bE a b = true) → (∀ q, p = some q → ∀ s ∈ l, bE q s = true) → bL n p l = true := by
 induction l with
 | nil => intro p _ _ _; rfl
 | cons x t ih =>
  intro p h1 h2 h3
  have h4 := h1 x (List.mem_cons_self ..)
  rw [List.pairwise_cons] at h2
  have h5 := ih (some x) (fun e he => h1 e (List.mem_cons_of_mem _ he)) h2.2 (fun q hq s hs => by injection hq with hq; subst hq; exact h2.1 s hs)
  simp only [bL, Bool.and_eq_true, decide_eq_true_eq]
  refine ⟨⟨⟨h4.1, h4.2.1⟩, h4.2.2⟩, ?_, h5⟩
  cases p with
  | none => rfl
  | some q => exact h3 q rfl x (List.mem_cons_self ..)
theorem i6 (st : List Int → List Int → Bool) (a : List Int) (i : Nat) (t : List (List Int)) : ∀ k, ∀ e ∈ bY st a i k t, e.f0 = (i : Int) ∧ (k : Int) ≤ e.f1 ∧ e.f1 < ((k + t.length : Nat) : Int) := by
 induction t with
 | nil => intro k e he; cases he
 | cons b t ih =>
  intro k e he
  simp only [bY, List.mem_append] at he
  rcases he with he | he
  · split at he
    · rw [List.mem_singleton] at he
      subst he
      exact ⟨rfl, Int.le_refl _, by rw [List.length_cons]; show (k : Int) < _; omega⟩
    · cases he
  · have := ih (k + 1) e he
    rw [List.length_cons]
    exact ⟨this.1, by omega, by omega⟩
theorem ox (st : List Int → List Int → Bool) (a : List Int) (i : Nat) (t : List (List Int)) : ∀ k, (bY st a i k t).Pairwise (fun a b => a.f0 = b.f0 ∧ a.f1 < b.f1) := by
 induction t with
 | nil => intro k; exact .nil
 | cons b t ih =>
  intro k
  simp only [bY]
  rw [List.pairwise_append]
  refine ⟨by split <;> simp, ih (k + 1), fun x hx y hy => ?_⟩
  have h2 := i6 st a i t (k + 1) y hy
  split at hx
  · rw [List.mem_singleton] at hx
    subst hx
    exact ⟨h2.1.symm, by show (k : Int) < _; omega⟩
  · cases hx
theorem mz (st : List Int → List Int → Bool) (t : List (List Int)) : ∀ i, ∀ e ∈ bg st i t, (i : Int) ≤ e.f0 ∧ e.f0 < e.f1 ∧ e.f1 < ((i + t.length : Nat) : Int) := by
 induction t with
 | nil => intro i e he; cases he
 | cons b t ih =>
  intro i e he
  simp only [bg, List.mem_append] at he
  rw [List.length_cons]
  rcases he with he | he
  · have := i6 st b i t (i + 1) e he
    exact ⟨by omega, by omega, by omega⟩
  · have := ih (i + 1) e he
    exact ⟨by omega, by omega, by omega⟩
theorem sT (st : List Int → List Int → Bool) (t : List (List Int)) : ∀ i, (bg st i t).Pairwise (fun a b => a.f0 < b.f0 ∨ (a.f0 = b.f0 ∧ a.f1 < b.f1)) := by
 induction t with
 | nil => intro i; exact .nil
 | cons b t ih =>
  intro i
  simp only [bg]
  rw [List.pairwise_append]
  refine ⟨(ox st b i t (i + 1)).imp fun h => .inr h, ih (i + 1), fun x hx y hy => .inl ?_⟩
  have h1 := i6 st b i t (i + 1) x hx
  have h2 := mz st t (i + 1) y hy
  omega
theorem sU (st : List Int → List Int → Bool) (t : List (List Int)) : bL (t.length : Int) none (bg st 0 t) = true := by
 refine qV _ _ _ (fun e he => ?_) ((sT st t 0).imp fun {a b} h => ?_) (fun q hq => by cases hq)
 · have := mz st t 0 e he
   exact ⟨by omega, by omega, by omega⟩
 · unfold bE
   rcases h with h | h
   · simp [h]
   · simp [h.1, h.2]
theorem m7 {n : Nat} (hn : n ≤ 8) (e : List S69) (lo hi kind : Int) : gi (bh n e lo hi) (bg (cl e kind) 0 (bh n e lo hi)) := by
 have h2 := jD hn e lo hi
 have h3 := jS (cl e kind) (bh n e lo hi) 0
 have h4 : (bh n e lo hi).length * (bh n e lo hi).length ≤ 256 * 256 := Nat.mul_le_mul h2 h2
 exact ⟨by omega, fun s hs => by have := gj (gH hn hs); omega, by omega⟩
section
variable {z : List (List Int)} (hn : z.length ≤ 1048576) (hr : ∀ i, (af z i).length ≤ 1048576) {D : List Int} (hD : D.length = z.length)
include hn hr hD
theorem mY (i j : Int) (hi : 0 ≤ i ∧ i < (z.length : Int)) (hz : ∀ q ∈ af z i, 0 ≤ q ∧ q < (z.length : Int)) (hDi : 0 < rd D i ∧ rd D i ≤ 1048577) (acc : List Int) (ha : acc.length ≤ 4000000) (d : Nat) : ∀ (m : Nat), (af z i).length - m = d → m ≤ (af z i).length → (∃ q ∈ (af z i).drop m, rd D q = rd D i - 1) →
  ∃ q, q ∈ af z i ∧ rd D q = rd D i - 1 ∧
    (∀ R, Ev (fun k => cV k q j z D (acc ++ [q])) R → Ev (fun k => dV k i j z D acc (m : Int)) R) ∧
    (∀ R, Ev (fun k => cE k q j z D (acc ++ [q])) R → Ev (fun k => ej k i j z D acc (af z i) ((af z i).length : Int) (m : Int)) R) := by
 have hrl := hr i
 have _hu := hn
 have hw : wrap64 (rd D i - 1) = rd D i - 1 := b4 (by omega) (by omega)
 have HW := Aside0.mk hw
 clear hw
 induction d with
 | zero =>
  intro m h0 h1 h2
  obtain ⟨q, hq, _⟩ := h2
  rw [List.drop_eq_nil_of_le (by omega)] at hq
  cases hq
 | succ d ih =>
  intro m h0 h1 h2
  have hm : m < (af z i).length := by omega
  have hq := hz (af z i)[m] (List.getElem_mem hm)
  by_cases c : rd D (af z i)[m] = rd D i - 1
  · refine ⟨(af z i)[m], List.getElem_mem hm, c, fun R hR => ?_, fun R hR => ?_⟩
    · refine Ev.step (fun k => by rw [dV]) ?_
      refine Ev.pos hi.1 ?_
      refine Ev.pos hi.2 ?_
      refine Ev.pos (by omega) ?_
      refine Ev.pos (by omega) ?_
      rw [bk _ m hm]
      refine Ev.pos hq.1 ?_
      refine Ev.pos (by omega) ?_
      refine Ev.pos (by omega) ?_
      rw [HW.out]
      refine Ev.pos c ?_
      refine Ev.pos (by omega) ?_
      exact hR
    · refine Ev.step (fun k => by rw [ej]) ?_
      refine Ev.pos (by omega) ?_
      refine Ev.pos (by omega) ?_
      refine Ev.pos (by omega) ?_
      rw [bk _ m hm]
      refine Ev.pos hq.1 ?_
      refine Ev.pos (by omega) ?_
      refine Ev.pos hi.1 ?_
      refine Ev.pos (by omega) ?_
      rw [HW.out]
      refine Ev.pos c ?_
      refine Ev.pos (by omega) ?_
      exact hR
  · obtain ⟨q, q1, q2, q3, q4⟩ := ih (m + 1) (by omega) (by omega) (by
      obtain ⟨q, hq', hq2⟩ := h2
      rw [List.drop_eq_getElem_cons hm] at hq'
      rcases List.mem_cons.1 hq' with rfl | hq'
      · exact absurd hq2 c
      · exact ⟨q, hq', hq2⟩)
    rw [← aM hm (by omega)] at q3 q4
    refine ⟨q, q1, q2, fun R hR => ?_, fun R hR => ?_⟩
    · have e3 := q3 R hR
      refine Ev.step (fun k => by rw [dV]) ?_
      refine Ev.pos hi.1 ?_
      refine Ev.pos hi.2 ?_
      refine Ev.pos (by omega) ?_
      refine Ev.pos (by omega) ?_
      rw [bk _ m hm]
      refine Ev.pos hq.1 ?_
      refine Ev.pos (by omega) ?_
      refine Ev.pos (by omega) ?_
      rw [HW.out]
      refine Ev.neg c ?_
      exact e3
    · have e4 := q4 R hR
      refine Ev.step (fun k => by rw [ej]) ?_
      refine Ev.pos (by omega) ?_
      refine Ev.pos (by omega) ?_
      refine Ev.pos (by omega) ?_
      rw [bk _ m hm]
      refine Ev.pos hq.1 ?_
      refine Ev.pos (by omega) ?_
      refine Ev.pos hi.1 ?_
      refine Ev.pos (by omega) ?_
      rw [HW.out]
      refine Ev.neg c ?_
      exact e4
theorem mZ (hz : fo z) (hs : iN z) (j : Int) (hb : ∀ k, rd D k ≤ 1048577) (h0 : rd D j = 0) (hE : ∀ k, 0 ≤ k → k < (z.length : Int) → 0 ≤ rd D k → k = j ∨ ∃ p, 0 ≤ p ∧ p < (z.length : Int) ∧ k ∈ af z p ∧ 0 ≤ rd D p ∧ rd D k = rd D p + 1) (t : Nat) :
  ∀ (i : Int) (acc : List Int), 0 ≤ i → i < (z.length : Int) → rd D i = (t : Int) → acc.length + t ≤ 2000000 → 0 < acc.length → (∀ x ∈ acc, 0 ≤ x ∧ x < (z.length : Int)) → ∃ R : List Int, R.length = acc.length + t ∧ Ev (fun k => cV k i j z D acc) R ∧ Ev (fun k => cE k i j z D acc) (R, true) ∧ ∀ x ∈ R, 0 ≤ x ∧ x < (z.length : Int) := by
 induction t with
 | zero =>
  intro i acc hi0 hi1 hd ha hp hin
  have hij : i = j := by
    rcases hE i hi0 hi1 (by omega) with e | ⟨p, p0, p1, p2, p3, p4⟩
    · exact e
    · omega
  refine ⟨acc, rfl, ?_, ?_, hin⟩
  · refine Ev.step (fun k => by rw [cV]) ?_
    exact Ev.pos hij (Ev.now _)
  · refine Ev.step (fun k => by rw [cE]) ?_
    exact Ev.pos hij (Ev.now _)
 | succ t ih =>
  intro i acc hi0 hi1 hd ha hp hin
  have hij : i ≠ j := fun e => by rw [e, h0] at hd; omega
  obtain ⟨q, q1, q2, q3, q4⟩ := mY hn hr hD i j ⟨hi0, hi1⟩ (hz i hi0 hi1) ⟨by omega, hb i⟩ acc (by omega) ((af z i).length - 0) 0 rfl (Nat.zero_le _) (by
    rw [List.drop_zero]
    rcases hE i hi0 hi1 (by omega) with e | ⟨p, p0, p1, p2, p3, p4⟩
    · exact absurd e hij
    · exact ⟨p, hs p i p0 p1 hi0 hi1 p2, by omega⟩)
  simp only [Int.natCast_zero] at q3 q4
  have hq := hz i hi0 hi1 q q1
  obtain ⟨R, r0, r1, r2, r3⟩ := ih q (acc ++ [q]) hq.1 hq.2 (by omega) (by rw [List.length_append, List.length_singleton]; omega) (by rw [List.length_append, List.length_singleton]; omega) (fun x hx => by
    rcases List.mem_append.1 hx with h | h
    · exact hin x h
    · rw [List.mem_singleton] at h
      exact h ▸ hq)
  refine ⟨R, by rw [r0, List.length_append, List.length_singleton]; omega, ?_, ?_, r3⟩
  · have e3 := q3 R r1
    refine Ev.step (fun k => by rw [cV]) ?_
    refine Ev.neg hij ?_
    exact e3
  · have e4 := q4 (R, true) r2
    refine Ev.step (fun k => by rw [cE]) ?_
    refine Ev.neg hij ?_
    refine Ev.pos hi0 ?_
    refine Ev.pos hi1 ?_
    exact e4
end
theorem ou (l : List (List Int)) (h : LexS l) (q : Nat) (hq : q < l.length) : cg (fun i => bH (l.getD i []) l[q]) (l.length + 1) 0 l.length = q := by
 refine sA _ l.length q (fun i hi => ?_) (fun i hi hn => ?_) _ _ _ (Nat.zero_le _) (by omega) (au _) (by omega)
 · rw [jI, List.getD_eq_getElem?_getD, List.getElem?_eq_getElem (by omega), Option.getD_some]
   exact List.pairwise_iff_getElem.1 h i q (by omega) hq hi
 · rw [jI, List.getD_eq_getElem?_getD, List.getElem?_eq_getElem hn, Option.getD_some]
   by_cases c : i = q
   · subst c
     rw [gQ]
     decide
   · rw [jM (List.pairwise_iff_getElem.1 h q i hq hn (by omega))]
     decide
section
variable (l : List (List Int)) (e : List S69) (hm : gi l e)
include hm
theorem lK (s : List Int) (d : Nat) : ∀ (m : Nat), l.length - m = d → m ≤ l.length →
  ∃ r : Int, Ev (fun k => dI k s (m : Int) l e) r ∧ ((r = -1 ∧ s ∉ l.drop m) ∨ ∃ q : Nat, ∃ hq : q < l.length, r = (q : Int) ∧ l[q] = s) := by
 have hl := hm.1
 induction d with
 | zero =>
  intro m h0 h1
  refine ⟨-1, ?_, .inl ⟨rfl, ?_⟩⟩
  · refine Ev.step (fun k => by rw [dI]) ?_
    exact Ev.neg (by omega) (Ev.now _)
  · rw [List.drop_eq_nil_of_le (by omega)]
    simp
 | succ d ih =>
  intro m h0 h1
  have hmm : m < l.length := by omega
  by_cases c : l[m] = s
  · refine ⟨(m : Int), ?_, .inr ⟨m, hmm, rfl, c⟩⟩
    refine Ev.step (fun k => by rw [dI]) ?_
    refine Ev.pos (by omega) (Ev.pos (by omega) ?_)
    rw [bU l m hmm]
    exact Ev.bind (hG _ _ (hm.2.1 _ (List.getElem_mem hmm))) (Ev.pos (ag c) (Ev.now _))
  · obtain ⟨r, hr, hd⟩ := ih (m + 1) (by omega) (by omega)
    refine ⟨r, ?_, ?_⟩
    · refine Ev.step (fun k => by rw [dI]) ?_
      refine Ev.pos (by omega) (Ev.pos (by omega) ?_)
      rw [bU l m hmm, aM hmm (by omega)]
      exact Ev.bind (hG _ _ (hm.2.1 _ (List.getElem_mem hmm))) (Ev.neg (by rw [ar c]; decide) hr)
    · rcases hd with ⟨hd, hn⟩ | hd
      · refine .inl ⟨hd, ?_⟩
        rw [List.drop_eq_getElem_cons hmm, List.mem_cons]
        rintro (hh | hh)
        · exact c hh.symm
        · exact hn hh
      · exact .inr hd
theorem jh (hx : LexS l) (s : List Int) (hs : s ∈ l) : ∃ q : Nat, ∃ hq : q < l.length, l[q] = s ∧ Ev (fun k => dJ k l e s) (q : Int) ∧ dP l e s = some ((q : Int), true) := by
 have hl := hm.1
 obtain ⟨r, hr, hd⟩ := lK l e hm s l.length 0 (by omega) (Nat.zero_le _)
 have hr' : Ev (fun k => dJ k l e s) r := hr
 rcases hd with ⟨hd, hn⟩ | ⟨q, hq, hd, h2⟩
 · exact absurd hs (by rw [List.drop_zero] at hn; exact hn)
 · subst h2
   refine ⟨q, hq, rfl, hd ▸ hr', ?_⟩
   have hp : eH l l[q] = q := ou l hx q hq
   unfold dP
   rw [if_pos (by omega), hp, ag hq, Bool.true_and, List.getD_eq_getElem?_getD, List.getElem?_eq_getElem hq, Option.getD_some, (mm _ _).2 rfl]
   rfl
theorem jg (s : List Int) (hs : s ∉ l) : Ev (fun k => dJ k l e s) (-1) ∧ ∃ r, dP l e s = some (r, false) := by
 have hl := hm.1
 obtain ⟨r, hr, hd⟩ := lK l e hm s l.length 0 (by omega) (Nat.zero_le _)
 have hr' : Ev (fun k => dJ k l e s) r := hr
 rcases hd with ⟨hd, hn⟩ | ⟨q, hq, hd, h2⟩
 · refine ⟨hd ▸ hr', (eH l s : Int), ?_⟩
   unfold dP
   rw [if_pos (by omega)]
   congr 2
   by_cases c : eH l s < l.length
   · rw [ag c, Bool.true_and, beq_eq_false_iff_ne]
     intro h
     rw [mm, List.getD_eq_getElem?_getD, List.getElem?_eq_getElem c, Option.getD_some] at h
     exact hs (h ▸ List.getElem_mem c)
   · rw [ar c, Bool.false_and]
 · exact absurd (h2 ▸ List.getElem_mem hq) hs
theorem m0 (hg : bL (l.length : Int) none e = true) (i j : Nat) (hi : i < l.length) (hj : j < l.length) : ∃ (R : List Int) (ok : Bool), Ev (fun k => eZ k l e (i : Int) (j : Int)) R ∧ Ev (fun k => fE k l e (i : Int) (j : Int)) (R, ok) ∧ ok = decide (0 < R.length) ∧ R.length ≤ 1048576 ∧ ∀ x ∈ R, 0 ≤ x ∧ x < (l.length : Int) := by
 have hlen := i9 l e
 have hml := hm.1
 have hok := oF l e hm hg
 have hrow := oE l e hm hg
 obtain ⟨D, e1, e2, e3, e4, e5, e6, e7, e8, e9⟩ := np hok (by omega) hrow (j : Int) (by omega) (by omega)
 by_cases hd : rd D (i : Int) < 0
 · refine ⟨[], false, ?_, ?_, rfl, Nat.zero_le _, fun x hx => by cases hx⟩
   · unfold eZ
     refine Ev.bind (lx l e hm hg) ?_
     refine Ev.bind e2 ?_
     refine Ev.pos (by omega) ?_
     refine Ev.pos (by omega) ?_
     exact Ev.pos hd (Ev.now _)
   · unfold fE
     refine Ev.bind (kN l e hm hg) ?_
     refine Ev.bind e1 ?_
     refine Ev.pos (by omega) ?_
     refine Ev.pos (by omega) ?_
     exact Ev.pos hd (Ev.now _)
 · have hb := e4 (i : Int)
   obtain ⟨R, r0, r1, r2, r3⟩ := mZ (z := cz l e) (by omega) hrow e3 hok (oD l e hm hg) (j : Int) (fun k => by have := e4 k; omega) e8 e9 (rd D (i : Int)).toNat (i : Int) [(i : Int)] (by omega) (by omega) (by omega) (by rw [List.length_singleton]; omega) (by simp) (fun x hx => by rw [List.mem_singleton] at hx; subst hx; omega)
   have hRn : 0 < R.length := by rw [r0, List.length_singleton]; omega
   refine ⟨R, true, ?_, ?_, (ag hRn).symm, by rw [r0, List.length_singleton]; omega, fun x hx => by have := r3 x hx; omega⟩
   · unfold eZ
     refine Ev.bind (lx l e hm hg) ?_
     refine Ev.bind e2 ?_
     refine Ev.pos (by omega) ?_
     refine Ev.pos (by omega) ?_
     refine Ev.neg hd ?_
     exact r1
   · unfold fE
     refine Ev.bind (kN l e hm hg) ?_
     refine Ev.bind e1 ?_
     refine Ev.pos (by omega) ?_
     refine Ev.pos (by omega) ?_
     refine Ev.neg hd ?_
     exact r2
def eR (x : Int) : List Int := l.getD x.toNat []
theorem sp (x : List Int) (h : x.length ≤ 1048576) : ga x = some x := by
 have _hu := hm
 unfold ga
 rw [if_pos (by omega)]
theorem jR (x : Int) : (eR l x).length ≤ 1048576 := by
 unfold eR
 rw [List.getD_eq_getElem?_getD]
 cases h : l[x.toNat]? with
 | none => exact Nat.zero_le _
 | some s => exact hm.2.1 s (List.mem_of_getElem? h)
section
variable (R : List Int) (hR : R.length ≤ 1048576) (hx : ∀ x ∈ R, 0 ≤ x ∧ x < (l.length : Int))
include hR hx
theorem nq (d : Nat) : ∀ (m : Nat) (acc : List (List Int)), R.length - m = d → m ≤ R.length → acc.length ≤ m → Ev (fun k => dF k acc R (m : Int) l e) (acc ++ (R.drop m).map (eR l)) := by
 induction d with
 | zero =>
  intro m acc h0 h1 h2
  rw [List.drop_eq_nil_of_le (by omega), List.map_nil, List.append_nil]
  exact Ev.step (fun k => by rw [dF]) (Ev.neg (by omega) (Ev.now _))
 | succ d ih =>
  intro m acc h0 h1 h2
  have hmm : m < R.length := by omega
  have h3 := hx R[m] (List.getElem_mem _)
  refine Ev.step (fun k => by rw [dF]) (Ev.pos (by omega) (Ev.pos (by omega) ?_))
  rw [bk R m hmm, aM hmm (by omega), List.drop_eq_getElem_cons hmm, List.map_cons]
  refine Ev.pos h3.1 (Ev.pos h3.2 ?_)
  refine Ev.bindo (ib _ (jR l e hm R[m])) ?_
  refine Ev.pos (by omega) ?_
  have := ih (m + 1) (acc ++ [eR l R[m]]) (by omega) (by omega) (by rw [List.length_append, List.length_singleton]; omega)
  rw [List.append_assoc] at this
  exact this
theorem qk (ok : Bool) (d : Nat) : ∀ (m : Nat) (acc : List (List Int)), R.length - m = d → m ≤ R.length → acc.length ≤ m → Ev (fun k => dA k ok acc R (R.length : Int) (m : Int) l e) (acc ++ (R.drop m).map (eR l), ok) := by
 induction d with
 | zero =>
  intro m acc h0 h1 h2
  rw [List.drop_eq_nil_of_le (by omega), List.map_nil, List.append_nil]
  exact Ev.step (fun k => by rw [dA]) (Ev.neg (by omega) (Ev.now _))
 | succ d ih =>
  intro m acc h0 h1 h2
  have hmm : m < R.length := by omega
  have h3 := hx R[m] (List.getElem_mem _)
  refine Ev.step (fun k => by rw [dA]) (Ev.pos (by omega) (Ev.pos (by omega) (Ev.pos (by omega) ?_)))
  rw [bk R m hmm, aM hmm (by omega), List.drop_eq_getElem_cons hmm, List.map_cons]
  refine Ev.pos h3.1 (Ev.pos h3.2 ?_)
  refine Ev.bindo (sp l e hm _ (jR l e hm R[m])) ?_
  refine Ev.pos (by omega) ?_
  have := ih (m + 1) (acc ++ [eR l R[m]]) (by omega) (by omega) (by rw [List.length_append, List.length_singleton]; omega)
  rw [List.append_assoc] at this
  exact this
end
theorem m3 (hx : LexS l) (hg : bL (l.length : Int) none e = true) (a b : List Int) : ∃ (Q : List (List Int)) (ok : Bool), Ev (fun k => dS k l e a b) Q ∧ Ev (fun k => eh k l e a b) (Q, ok) ∧ ok = decide ((Q.length : Int) > 0) ∧ Q.length ≤ 1048576 ∧ ∀ s ∈ Q, s.length ≤ 1048576 := by
 by_cases ca : a ∈ l
 · obtain ⟨i, hi, _, i1, i2⟩ := jh l e hm hx a ca
   by_cases cb : b ∈ l
   · obtain ⟨j, hj, _, j1, j2⟩ := jh l e hm hx b cb
     obtain ⟨R, ok, r1, r2, r3, r4, r5⟩ := m0 l e hm hg i j hi hj
     refine ⟨R.map (eR l), ok, ?_, ?_, ?_, by rw [List.length_map]; exact r4, fun s hs => by obtain ⟨x, _, rfl⟩ := List.mem_map.1 hs; exact jR l e hm x⟩
     · unfold dS
       refine Ev.bind i1 ?_
       refine Ev.bind j1 ?_
       refine Ev.bindo rfl ?_
       refine Ev.neg (by omega) ?_
       refine Ev.step (fun k => by rw [dh]) ?_
       refine Ev.neg (by first | (simp; done) | (simp; omega)) ?_
       refine Ev.bind r1 ?_
       have := nq l e hm R r4 r5 _ 0 [] rfl (Nat.zero_le _) (Nat.zero_le _)
       simpa only [List.nil_append, List.drop_zero, Int.natCast_zero] using this
     · unfold eh
       refine Ev.bindo i2 ?_
       refine Ev.bindo j2 ?_
       refine Ev.pos rfl ?_
       refine Ev.step (fun k => by rw [ef]) ?_
       refine Ev.neg (by simp) ?_
       refine Ev.bind r2 ?_
       have := qk l e hm R r4 r5 ok _ 0 [] rfl (Nat.zero_le _) (Nat.zero_le _)
       simpa only [List.nil_append, List.drop_zero, Int.natCast_zero] using this
     · rw [r3, List.length_map, decide_eq_decide]
       omega
   · obtain ⟨j1, r, j2⟩ := jg l e hm b cb
     refine ⟨[], false, ?_, ?_, rfl, Nat.zero_le _, fun s hs => by cases hs⟩
     · unfold dS
       refine Ev.bind i1 ?_
       refine Ev.bind j1 ?_
       refine Ev.bindo rfl ?_
       refine Ev.neg (by omega) ?_
       refine Ev.step (fun k => by rw [dh]) ?_
       exact Ev.pos (by decide) (Ev.now _)
     · unfold eh
       refine Ev.bindo i2 ?_
       refine Ev.bindo j2 ?_
       refine Ev.pos rfl ?_
       refine Ev.step (fun k => by rw [ef]) ?_
       exact Ev.pos rfl (Ev.now _)
 · obtain ⟨i1, r, i2⟩ := jg l e hm a ca
   have hb : (∃ x, Ev (fun k => dJ k l e b) x) ∧ ∃ y, dP l e b = some y := by
     by_cases cb : b ∈ l
     · obtain ⟨j, hj, _, j1, j2⟩ := jh l e hm hx b cb
       exact ⟨⟨_, j1⟩, _, j2⟩
     · obtain ⟨j1, r, j2⟩ := jg l e hm b cb
       exact ⟨⟨_, j1⟩, _, j2⟩
   obtain ⟨⟨x, j1⟩, y, j2⟩ := hb
   refine ⟨[], false, ?_, ?_, rfl, Nat.zero_le _, fun s hs => by cases hs⟩
   · unfold dS
     refine Ev.bind i1 ?_
     refine Ev.bind j1 ?_
     refine Ev.bindo rfl ?_
     refine Ev.pos (by decide) ?_
     refine Ev.step (fun k => by rw [dh]) ?_
     exact Ev.pos rfl (Ev.now _)
   · unfold eh
     refine Ev.bindo i2 ?_
     refine Ev.bindo j2 ?_
     refine Ev.neg (by simp) ?_
     refine Ev.step (fun k => by rw [ef]) ?_
     exact Ev.pos rfl (Ev.now _)
end
def dq (a : Int) (e : List S69) (l : List Int) : Bool := bA 0 (wrap64 (a - 1)) none l && dd e l
def eV (a : Int) (e : List S69) (x y : List Int) : Bool := bP a e && (dq a e x && dq a e y)
theorem l7 (a : Int) (e : List S69) (l : List Int) (he : e.length ≤ 1048576) (hl : l.length ≤ 1048576) (hg : bP a e = true) : Ev (fun k => dU k a e l) (dq a e l) := by
 have h1 := d5 hg
 have := lJ a e l he hl
 rw [l8 e l _ (fun s hs => (h1.2.2 s hs).2.1)] at this
 exact this
theorem oh {n : Nat} {e : List S69} {l : List Int} (hn : n ≤ 8) (h : dq (n : Int) e l = true) : SetN n l ∧ dd e l = true := by
 unfold dq at h
 rw [Bool.and_eq_true, b4 (by omega) (by omega)] at h
 exact ⟨SetN.of_ris h.1, h.2⟩
theorem pQ (a : Int) (e : List S69) (x y : List Int) (he : e.length ≤ 1048576) (hx : x.length ≤ 1048576) (hy : y.length ≤ 1048576) : Ev (fun k => fW k a e x y) (eV a e x y) := by
 unfold fW gY eV
 by_cases hg : bP a e = true
 · rw [hg, Bool.true_and]
   refine Ev.bind (a := dq a e x) ?_ ?_
   · refine Ev.bind (lL a e he) ?_
     refine Ev.pos hg ?_
     exact Ev.bind (l7 a e x he hx hg) (Ev.now _)
   · cases c : dq a e x with
     | true => exact Ev.pos rfl (Ev.bind (l7 a e y he hy hg) (Ev.now _))
     | false => exact Ev.neg (by decide) (Ev.now _)
 · rw [Bool.eq_false_iff.mpr hg, Bool.false_and]
   refine Ev.bind (a := false) ?_ ?_
   · refine Ev.bind (lL a e he) ?_
     exact Ev.neg hg (Ev.now _)
   · exact Ev.neg (by decide) (Ev.now _)
theorem m4 (a : Int) (e : List S69) (x y : List Int) (he : e.length ≤ 1048576) (hx : x.length ≤ 1048576) (hy : y.length ≤ 1048576) : Ev (fun k => gA k a e x y) (eV a e x y) := by
 unfold gA eV
 refine Ev.bind (iq _ e he) ?_
 by_cases hg : bP a e = true
 · rw [hg, Bool.true_and]
   refine Ev.pos rfl ?_
   refine Ev.bind (a := dq a e x) (lM a e x hx hg) ?_
   cases c : dq a e x with
   | true => exact Ev.pos rfl (Ev.bind (a := dq a e y) (lM a e y hy hg) (Ev.now _))
   | false => exact Ev.neg (by decide) (Ev.now _)
 · rw [Bool.eq_false_iff.mpr hg, Bool.false_and]
   exact Ev.neg (by decide) (Ev.now _)
theorem m6 (n : Nat) (hn : n ≤ 8) (e : List S69) (lo hi kind : Int) (x y : List Int) : ∃ (Q : List (List Int)) (ok : Bool), Ev (fun k => dS k (bh n e lo hi) (bg (cl e kind) 0 (bh n e lo hi)) x y) Q ∧ Ev (fun k => eh k (bh n e lo hi) (bg (cl e kind) 0 (bh n e lo hi)) x y) (Q, ok) ∧ ok = decide ((Q.length : Int) > 0) ∧ Q.length ≤ 1048576 ∧ ∀ s ∈ Q, s.length ≤ 1048576 :=
 m3 _ _ (m7 hn e lo hi kind) (jC hn e lo hi) (sU _ _) x y
theorem m5 (Q : List (List Int)) : gV Q = some (Q, decide ((Q.length : Int) > 0)) := rfl
theorem tF (a0_0 : Int) (l0_1 : List S69) (l1 : List Int) (l2 : List Int) (w0_0 : (Lit.int .i64 a0_0).wf = true) (w0_1 : j4 l0_1) (w1 : gR l1) (w2 : gR l2) (hn0 : l0_1.length ≤ 1048576) (hl1 : l1.length ≤ 1048576) (hl2 : l2.length ≤ 1048576) : ∃ (q0 : List (List Int)) (q1 : Bool), Ev (fun k => fg k a0_0 l0_1 l1 l2) (q0, q1) ∧ Ev (fun k => fF k a0_0 l0_1 l1 l2) (q0, q1) ∧ (q0.length ≤ 1048576 ∧ ∀ s ∈ q0, s.length ≤ 1048576) := by
 have hs := pQ a0_0 l0_1 l1 l2 hn0 hl1 hl2
 have hi := m4 a0_0 l0_1 l1 l2 hn0 hl1 hl2
 by_cases c : eV a0_0 l0_1 l1 l2 = true
 · have c' := c
   unfold eV at c'
   rw [Bool.and_eq_true, Bool.and_eq_true] at c'
   obtain ⟨hg, hx, hy⟩ := c'
   have h1 := d5 hg
   obtain ⟨n, rfl⟩ := Int.eq_ofNat_of_zero_le h1.1
   have hn : n ≤ 8 := by omega
   have hlen := (oh hn hx).1.len
   obtain ⟨Q, ok, w1_, w2_, w3_, w4_, w5_⟩ := m6 n hn l0_1 (l1.length : Int) (l1.length : Int) 1 l1 l2
   have ht := qG (n : Int) l0_1 (l1.length : Int) hn0
   unfold iJ at ht
   rw [if_pos (by rw [hg, Bool.true_and, ag (show (0 : Int) ≤ (l1.length : Int) by omega), ag (show (l1.length : Int) ≤ 8 by omega)]; rfl), Int.toNat_natCast] at ht
   refine ⟨Q, ok, ?_, ?_, w4_, w5_⟩
   · unfold fg
     refine Ev.bind hs ?_
     refine Ev.pos c ?_
     refine Ev.bind (pP n hn l0_1 hn0 hg _ _) ?_
     refine Ev.bind (pM n hn l0_1 hn0 _ _ _) ?_
     refine Ev.bind w1_ ?_
     refine Ev.bindo (m5 Q) ?_
     rw [w3_]
     exact Ev.now _
   · unfold fF
     refine Ev.bind hi ?_
     refine Ev.pos c ?_
     refine Ev.bind ht ?_
     exact Ev.bind w2_ (Ev.now _)
 · refine ⟨[], false, ?_, ?_, Nat.zero_le _, fun s hs => by cases hs⟩
   · unfold fg
     exact Ev.bind hs (Ev.neg c (Ev.now _))
   · unfold fF
     exact Ev.bind hi (Ev.neg c (Ev.now _))
set_option maxHeartbeats 1000000 in
theorem Law_FnExactJumpWalk (a0_0 : Int) (A0_1 : Option Addr) (ca0_1 : Nat) (l0_1 : List (S69)) (A1 : Option Addr) (ca1 : Nat) (l1 : List Int) (A2 : Option Addr) (ca2 : Nat) (l2 : List Int) (w : World) (hr0_1 : Kd.C k69 w A0_1 l0_1.length l0_1) (hc0_1 : l0_1.length ≤ ca0_1) (hr1 : Kd.C (Kd.int .i64) w A1 l1.length l1) (hc1 : l1.length ≤ ca1) (hr2 : Kd.C (Kd.int .i64) w A2 l2.length l2) (hc2 : l2.length ≤ ca2) (w0_0 : (Lit.int .i64 a0_0).wf = true) (w0_1 : j4 l0_1) (w1 : gR l1) (w2 : gR l2) :
   Calls Tryz.prog 3 #[.agg #[.int .i64 a0_0, .slice A0_1 l0_1.length ca0_1], .slice A1 l1.length ca1, .slice A2 l2.length ca2] w fun e w' => e = .returned (.bool true) ∧ Below w.heap.size w w' := by
 by_cases c0 : 1048576 < (l1.length : Int)
 · exact pK a0_0 A0_1 ca0_1 l0_1 A1 ca1 l1 A2 ca2 l2 w hr0_1 hc0_1 hr1 hc1 hr2 hc2 c0
 have hl1 : l1.length ≤ 1048576 := by omega
 by_cases c1 : 1048576 < (l2.length : Int)
 · exact pJ a0_0 A0_1 ca0_1 l0_1 A1 ca1 l1 A2 ca2 l2 w hr0_1 hc0_1 hr1 hc1 hr2 hc2 c0 c1
 have hl2 : l2.length ≤ 1048576 := by omega
 obtain ⟨t0, h0, m2⟩ := ng a0_0 l0_1 w0_1.1
 by_cases c2 : t0 < 0
 · exact pI a0_0 A0_1 ca0_1 l0_1 A1 ca1 l1 A2 ca2 l2 t0 w hr0_1 hc0_1 hr1 hc1 hr2 hc2 c0 c1 c2 h0
 have hn0 := m2.resolve_left c2
 obtain ⟨q0, q1, es, ei, hb1⟩ := tF a0_0 l0_1 l1 l2 w0_0 w0_1 w1 w2 hn0 hl1 hl2
 obtain ⟨k1, h1⟩ := Ev.rounds (nb a0_0 l0_1 hn0)
 obtain ⟨k2, h2⟩ := Ev.rounds (ki l1 hl1)
 obtain ⟨k3, h3⟩ := Ev.rounds (ki l2 hl2)
 obtain ⟨k4, h4⟩ := Ev.rounds (es)
 obtain ⟨k5, h5⟩ := Ev.rounds (ei)
 obtain ⟨k6, h6⟩ := Ev.rounds (rW q0 hb1.1 hb1.2)
 obtain ⟨k7, h7⟩ := Ev.rounds (rZ a0_0 l0_1 hn0)
 obtain ⟨k8, h8⟩ := Ev.rounds (jF l1 hl1)
 obtain ⟨k9, h9⟩ := Ev.rounds (jF l2 hl2)
 obtain ⟨kk0, mk0_0, h10, nkk0, pkk0⟩ := pq a0_0 l0_1 hn0
 obtain ⟨kk1, mk1_0, k11, h11, nkk1, pkk1⟩ := pp l1 kk0 hl1 ⟨by omega, pkk0⟩
 obtain ⟨kk2, mk2_0, k12, h12, nkk2, pkk2⟩ := po l2 kk1 hl2 ⟨by omega, pkk1⟩
 obtain ⟨kk3, mk3_0, h13, k14, h14, nkk3⟩ := pj q0 hb1
 exact pH a0_0 A0_1 ca0_1 l0_1 A1 ca1 l1 A2 ca2 l2 k1 k2 k3 k4 k5 k6 k7 k8 k9 k11 k12 k14 t0 q0 q1 kk0 mk0_0 kk1 mk1_0 kk2 mk2_0 kk3 mk3_0 w hr0_1 hc0_1 hr1 hc1 hr2 hc2 c0 c1 c2 h0 h1 h2 h3 h4 h5 h6 h7 h8 h9 h10 h11 h12 h13 h14 nkk2 nkk3
end Go.Proofs.YtadjbmcfgjmhkaaGreat.P
