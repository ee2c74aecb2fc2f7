/- The spaces of independent sets: when two sets differ by a jump, a slide or an adding, and the steps of a list of sets, as both sides tell them. -/
import Derived.Test.YtjgcehldepfaaaaGreatForestLockedG16
import Derived.Test.YtjgcehldepfaaaaGreatForestLockedG20
import Derived.Test.YtjgcehldepfaaaaGreatForestLockedG5
import Derived.Test.YtjgcehldepfaaaaGreatForestLockedG9
import Derived.Test.YtjgcehldepfaaaaGreatForestLockedG11
import Derived.Test.YtjgcehldepfaaaaGreatForestLockedG23
import Derived.Test.YtjgcehldepfaaaaGreatForestLockedG18
import Derived.Test.YtjgcehldepfaaaaGreatForestLockedG19
import Derived.Laws.BitsLemmas
import Derived.Test.YtjgcehldepfaaaaGreatForestLockedG21
import Derived.Handy
import Derived.Test.YtjgcehldepfaaaaGreatForestLockedG22
import Derived.Test.YtjgcehldepfaaaaGreatForestLockedG14
import Derived.Test.YtjgcehldepfaaaaGreatForestLockedG15
import Derived.Test.YtjgcehldepfaaaaGreatForestLockedG12
namespace Go.Proofs.YtjgcehldepfaaaaGreat.P
open Go.RowKit YtjgcehldepfaaaaGreatW.PrintWords Go.Proofs.YtjgcehldepfaaaaGreatW.PrintLast Go.Proofs.YtjgcehldepfaaaaGreatW.PrintMore
set_option linter.unusedVariables false
set_option linter.unusedSimpArgs false

theorem i6 (n : Int) (h0 : 0 ≤ n) (h1 : n < 2 ^ 8) : IntKind.u64.wrap n = n := by
  simp [IntKind.wrap, IntKind.bits, IntKind.signed]
  omega
theorem fX (n y : Nat) (hn : n < 256) (hy : y < 8) : aG (n : Int) (y : Int) = n.testBit y := by
  unfold aG cQ
  have e : (n : Int) / 2 ^ min (y : Int).toNat IntKind.u64.bits = ((n / 2 ^ y : Nat) : Int) := by
    rw [Int.toNat_natCast, Nat.min_eq_left (by show y ≤ 64; omega)]
    simp
  rw [e, show (1 : Int) = ((1 : Nat) : Int) from rfl, (bits_nat .u64 8 (by decide) i6 (n / 2 ^ y) 1 (Nat.lt_of_le_of_lt (Nat.div_le_self _ _) hn) (by decide)).1, Nat.and_one_is_mod, Nat.testBit_eq_decide_div_mod_eq, Bool.eq_iff_iff, beq_iff_eq, decide_eq_true_eq]
  omega
theorem pH (n m : Nat) (hn : n < 256) (hm : m < 256) : ∃ q : Nat, cU (n : Int) (m : Int) = (q : Int) ∧ q < 256 ∧ ∀ y : Nat, q.testBit y = (n.testBit y && !m.testBit y) ∨ 8 ≤ y := by
  have h1 : (BitVec.ofNat 64 n &&& ~~~ BitVec.ofNat 64 m).toNat ≤ n := by
    rw [BitVec.toNat_and, BitVec.toNat_ofNat, Nat.mod_eq_of_lt (by omega)]
    exact Nat.and_le_left
  refine ⟨(BitVec.ofNat 64 n &&& ~~~ BitVec.ofNat 64 m).toNat, ?_, by omega, fun y => ?_⟩
  · unfold cU
    simp only [bits, BitVec.ofInt_natCast]
    exact i6 _ (Int.natCast_nonneg _) (by
      have h2 : (BitVec.ofNat IntKind.u64.bits n &&& ~~~ BitVec.ofNat IntKind.u64.bits m).toNat ≤ n := h1
      have h3 : (2 : Int) ^ 8 = 256 := by decide
      rw [h3]
      omega)
  · by_cases hy : 8 ≤ y
    · exact .inr hy
    · left
      rw [BitVec.testBit_toNat, BitVec.getLsbD_and, BitVec.getLsbD_not, BitVec.getLsbD_ofNat, BitVec.getLsbD_ofNat]
      have : y < 64 := by omega
      simp [this]
theorem pI {b c : Int} (hb : 0 ≤ b ∧ b < 256) (hc : 0 ≤ c ∧ c < 256) : (0 ≤ cU b c ∧ cU b c < 256) ∧ ∀ y, 0 ≤ y → y < 8 → aG (cU b c) y = (aG b y && !aG c y) := by
  obtain ⟨n, rfl⟩ := Int.eq_ofNat_of_zero_le hb.1
  obtain ⟨m, rfl⟩ := Int.eq_ofNat_of_zero_le hc.1
  obtain ⟨q, h1, h2, h3⟩ := pH n m (by omega) (by omega)
  rw [h1]
  refine ⟨by omega, fun y h0 h8 => ?_⟩
  obtain ⟨z, rfl⟩ := Int.eq_ofNat_of_zero_le h0
  rw [fX q z h2 (by omega), fX n z (by omega) (by omega), fX m z (by omega) (by omega)]
  rcases h3 z with h | h
  · exact h
  · omega
theorem f4 {x : List Int} (hx : SetN 8 x) (z : Int) (h0 : 0 ≤ z) (h8 : z < 8) : aG (aJ 0 x) z = decide (z ∈ x) := by
  have h1 := (hx.code (by decide)).2
  rw [Bool.eq_iff_iff, decide_eq_true_eq]
  constructor
  · intro h
    rw [← h1]
    exact (cT _ _ _ _).2 ⟨by omega, h⟩
  · intro h
    rw [← h1] at h
    exact ((cT _ _ _ _).1 h).2
theorem pm {x : List Int} (hx : SetN 8 x) (y : List Int) : SetN 8 (bL x y) := ⟨hx.1.filter _, fun z hz => hx.2 z (List.mem_filter.1 hz).1⟩
theorem jx {x y : List Int} (hx : SetN 8 x) (hy : SetN 8 y) : bN (cU (aJ 0 x) (aJ 0 y)) = bL x y ∧ (0 ≤ cU (aJ 0 x) (aJ 0 y) ∧ cU (aJ 0 x) (aJ 0 y) < 256) := by
  have h1 := (hx.code (by decide)).1
  have h2 := (hy.code (by decide)).1
  have h3 := pI (b := aJ 0 x) (c := aJ 0 y) (by omega) (by omega)
  refine ⟨?_, h3.1⟩
  refine jv (gu _ _ _) (pm hx y).1 fun z => ?_
  unfold bL bN
  rw [cT, List.mem_filter]
  constructor
  · rintro ⟨h4, h5⟩
    rw [h3.2 z (by omega) (by omega), f4 hx z (by omega) (by omega), f4 hy z (by omega) (by omega), Bool.and_eq_true, decide_eq_true_eq] at h5
    exact h5
  · rintro ⟨h4, h5⟩
    have h6 := hx.2 z h4
    refine ⟨by omega, ?_⟩
    rw [h3.2 z (by omega) (by omega), f4 hx z (by omega) (by omega), f4 hy z (by omega) (by omega), af h4, Bool.true_and]
    exact h5
theorem gA {x : List Int} (hx : SetN 8 x) : x.length ≤ 8 := hx.len
theorem pv {x y : List Int} (hx : SetN 8 x) (hy : SetN 8 y) : Ev (fun k => gK k x y) (cU (aJ 0 x) (aJ 0 y), cU (aJ 0 y) (aJ 0 x)) := by
  have h1 := gA hx
  have h2 := gA hy
  unfold gK
  refine Ev.bind (gY x (by omega) fun z hz => hx.2 z hz) ?_
  refine Ev.bind (gY y (by omega) fun z hz => hy.2 z hz) ?_
  exact Ev.now _
theorem kM {x y : List Int} (hx : SetN 8 x) (hy : SetN 8 y) : dP (cU (aJ 0 x) (aJ 0 y)) = some ((bL x y).length : Int) := by
  have h1 := jx hx hy
  rw [kN h1.2.1 h1.2.2, ← h1.1]
theorem pr (es : List S63) (a b : Int) : fN es a b = aW es a b := by
  unfold fN aW
  rfl
theorem lf (l : List Int) : rd l 0 = l.headD 0 := by cases l <;> rfl
theorem nY (a : Int) (es : List S63) (hl : es.length ≤ 1048576) (hu : ∀ e ∈ es, e.f0 < e.f1) {x y : List Int} (hx : SetN 8 x) (hy : SetN 8 y) : Ev (fun k => eY k a es x y) (ba es x y) := by
  unfold eY ba gG
  refine Ev.bind (pv hx hy) ?_
  refine Ev.bindo (kM hx hy) ?_
  by_cases c : (bL x y).length = 1
  · rw [beq_iff_eq.mpr c, Bool.true_and]
    refine Ev.pos (by omega) ?_
    refine Ev.bindo (kM hy hx) ?_
    by_cases c2 : (bL y x).length = 1
    · rw [beq_iff_eq.mpr c2, Bool.true_and]
      refine Ev.pos (by omega) ?_
      refine Ev.bind (iX _) ?_
      rw [show aI (aG (cU (aJ 0 x) (aJ 0 y))) 8 0 = bL x y from (jx hx hy).1]
      refine Ev.pos (by omega) ?_
      refine Ev.bind (iX _) ?_
      rw [show aI (aG (cU (aJ 0 y) (aJ 0 x))) 8 0 = bL y x from (jx hy hx).1]
      refine Ev.pos (by omega) ?_
      rw [lf, lf, pr]
      exact Ev.bind (mb a es _ _ hl hu) (Ev.now _)
    · rw [beq_eq_false_iff_ne.mpr c2, Bool.false_and]
      exact Ev.neg (by omega) (Ev.now _)
  · rw [beq_eq_false_iff_ne.mpr c, Bool.false_and, Bool.false_and]
    exact Ev.neg (by omega) (Ev.now _)
/-- When two sets differ by a step of a kind. -/
def dF (es : List S63) (kind : Int) (x y : List Int) : Bool := if kind = 2 then tt x y else if kind = 1 then gG x y else ba es x y
/-- What holds of each pair of a list from some round on holds of all of them from some round on. -/
theorem sl {α β : Type} (t : List α) (f : Nat → α → Option β) (g : α → β) (h : ∀ x ∈ t, Ev (fun k => f k x) (g x)) : ∃ K, ∀ k, K ≤ k → ∀ x ∈ t, f k x = some (g x) := by
  induction t with
  | nil => exact ⟨0, fun _ _ x hx => by cases hx⟩
  | cons a t ih =>
    obtain ⟨K, hK⟩ := ih fun x hx => h x (List.mem_cons_of_mem _ hx)
    obtain ⟨K', hK'⟩ := h a (List.mem_cons_self ..)
    refine ⟨max K K', fun k hk x hx => ?_⟩
    rcases List.mem_cons.1 hx with rfl | hx
    · exact hK' k (by omega)
    · exact hK k (by omega) x hx
theorem nQ (f : Nat → List Int → List Int → Option Bool) (st : List Int → List Int → Bool) (t : List (List Int)) (hl : t.length ≤ 1024) (h : ∀ x ∈ t, ∀ y ∈ t, Ev (fun k => f k x y) (st x y)) (hs : bK t = t) : Ev (fun k => fA (i3 (f k) st t) st t) (t, aT st 0 t, true) := by
  obtain ⟨K, hK⟩ := sl (t.flatMap fun x => t.map fun y => (x, y)) (fun k p => f k p.1 p.2) (fun p => st p.1 p.2) fun p hp => by
    obtain ⟨x, hx, hp⟩ := List.mem_flatMap.1 hp
    obtain ⟨y, hy, rfl⟩ := List.mem_map.1 hp
    exact h x hx y hy
  refine ⟨K, fun k hk => ?_⟩
  show fA _ _ _ = _
  unfold fA
  rw [if_pos ⟨hl, af fun x hx y hy => hK k hk (x, y) (List.mem_flatMap.2 ⟨x, hx, List.mem_map.2 ⟨y, hy, rfl⟩⟩)⟩, hs]
theorem rq {n : Nat} (hn : n ≤ 8) (e : List S63) (lo hi : Int) : bK (bo n e lo hi) = bo n e lo hi :=
  pG _ _ (kF _ (jN hn e lo hi).nodup) (jN hn e lo hi) fun s => jg _ _
theorem iS {n : Nat} (hn : n ≤ 8) {e : List S63} {lo hi : Int} {s : List Int} (h : s ∈ bo n e lo hi) : SetN 8 s := ((iR hn e lo hi s).1 h).1.wide hn
end Go.Proofs.YtjgcehldepfaaaaGreat.P
namespace Go.Proofs.YtjgcehldepfaaaaGreat.P
open Go.RowKit YtjgcehldepfaaaaGreatW.PrintWords Go.Proofs.YtjgcehldepfaaaaGreatW.PrintLast Go.Proofs.YtjgcehldepfaaaaGreatW.PrintMore
set_option linter.unusedVariables false
set_option linter.unusedSimpArgs false

def cR : Nat → Int → List Int
  | 0, _ => []
  | n + 1, k => k :: cR n (wrap64 (k + 1))
def dp : Nat → Int → Int
  | 0, k => k
  | n + 1, k => dp n (wrap64 (k + 1))
theorem od (n : Nat) : ∀ k, (cR n k).length = n := by
  induction n with
  | zero => intro k; rfl
  | succ n ih => intro k; simp [cR, ih]
theorem jP (n : Nat) : ∀ k, 0 ≤ k → k + (n : Int) ≤ 4611686018427387904 → dp n k = k + (n : Int) := by
  induction n with
  | zero => intro k h1 h2; simp [dp]
  | succ n ih =>
    intro k h1 h2
    have e1 : wrap64 (k + 1) = k + 1 := bV (by omega) (by omega)
    rw [dp, e1, ih (k + 1) (by omega) (by omega)]
    omega
theorem px (d : Nat) : ∀ (done rest : List Int) (c : Int), rest.length = d → done.length + d ≤ 1048576 →
    Ev (fun k => dO k (done ++ rest) c (done.length : Int)) (dp d c, done ++ cR d c) := by
  induction d with
  | zero =>
    intro done rest c h0 h1
    refine Ev.step (fun k => by rw [dO]) ?_
    have : rest = [] := List.eq_nil_of_length_eq_zero h0
    subst this
    refine Ev.neg (by simp) ?_
    exact Ev.now _
  | succ d ih =>
    intro done rest c h0 h1
    obtain ⟨x, t, rfl⟩ : ∃ x t, rest = x :: t := by
      cases rest with
      | nil => simp at h0
      | cons x t => exact ⟨x, t, rfl⟩
    have h2 : t.length = d := by simpa using h0
    refine Ev.step (fun k => by rw [dO]) ?_
    refine Ev.pos (by simp; omega) (Ev.pos (by omega) ?_)
    have e : (done ++ x :: t).set ((done.length : Int)).toNat c = (done ++ [c]) ++ t := by
      rw [Int.toNat_natCast]
      simp
    have hw : wrap64 ((done.length : Int) + 1) = ((done ++ [c]).length : Int) := by
      rw [List.length_append, List.length_singleton]
      exact aH (n := done.length + 1) (by omega) (by omega)
    rw [e, hw]
    have := ih (done ++ [c]) t (wrap64 (c + 1)) h2 (by rw [List.length_append, List.length_singleton]; omega)
    simpa only [cR, dp, List.append_assoc, List.singleton_append] using this
theorem lG (l : List Int) (c : Int) (hl : l.length ≤ 1048576) : Ev (fun k => eP k l c) (dp l.length c, cR l.length c) := by
  unfold eP
  have := px l.length [] l c rfl (by simpa using hl)
  simpa only [List.nil_append, List.length_nil, Int.ofNat_eq_natCast, Int.natCast_zero] using this
theorem q7 (d : Nat) : ∀ (done : List Int) (c : Int), done.length + d ≤ 1048576 →
    Ev (fun k => d6 k (done ++ cR d c) c (done.length : Int)) (dp d c) := by
  induction d with
  | zero =>
    intro done c h1
    refine Ev.step (fun k => by rw [d6]) ?_
    refine Ev.neg (by simp [cR]) ?_
    exact Ev.now _
  | succ d ih =>
    intro done c h1
    refine Ev.step (fun k => by rw [d6]) ?_
    have hlen : (done ++ cR (d + 1) c).length = done.length + (d + 1) := by rw [List.length_append, od]
    refine Ev.pos (by rw [hlen]; omega) (Ev.pos (by omega) ?_)
    have hr : rd (done ++ cR (d + 1) c) (done.length : Int) = c := by
      rw [aK _ _ (by rw [hlen]; omega)]
      simp [cR]
    refine Ev.pos hr ?_
    have hw : wrap64 ((done.length : Int) + 1) = ((done ++ [c]).length : Int) := by
      rw [List.length_append, List.length_singleton]
      exact aH (n := done.length + 1) (by omega) (by omega)
    rw [hw]
    have := ih (done ++ [c]) (wrap64 (c + 1)) (by rw [List.length_append, List.length_singleton]; omega)
    simpa only [cR, dp, List.append_assoc, List.singleton_append] using this
theorem q8 (n : Nat) (c : Int) (hn : n ≤ 1048576) : Ev (fun k => gD k (cR n c) c) (dp n c) := by
  unfold gD
  have := q7 n [] c (by simpa using hn)
  simpa only [List.nil_append, List.length_nil, Int.ofNat_eq_natCast, Int.natCast_zero] using this
theorem sw (n : Nat) (hn : n ≤ 1048576) : ¬ dp n 1 < 0 := by rw [jP n 1 (by omega) (by omega)]; omega
end Go.Proofs.YtjgcehldepfaaaaGreat.P
namespace Go.Proofs.YtjgcehldepfaaaaGreat.P
open Go.RowKit YtjgcehldepfaaaaGreatW.PrintWords Go.Proofs.YtjgcehldepfaaaaGreatW.PrintLast Go.Proofs.YtjgcehldepfaaaaGreatW.PrintMore
set_option linter.unusedVariables false
set_option linter.unusedSimpArgs false

theorem sv (n : Nat) (k : Int) (hn : n ≤ 1048576) (h0 : 0 ≤ k) (h1 : k ≤ 2305843009213693952) : ¬ dp n k < 0 := by rw [jP n k h0 (by omega)]; omega
theorem pB (a : Int) (l : List S63) (h : l.length ≤ 1048576) : ∃ k b, iA a l 1 = some (k, b) ∧ ¬ k < 0 ∧ k ≤ 2251799813685248 := ⟨_, _, pC a l 1, pD l h, by rw [lH l 1 (by omega) (by omega)]; omega⟩
theorem pA (l : List Int) (c : Int) (h : l.length ≤ 1048576) (hc : 0 ≤ c ∧ c ≤ 2251799813685248) : ∃ k b n, eP n l c = some (k, b) ∧ ¬ k < 0 ∧ k ≤ 2305843009213693952 := by
  obtain ⟨n, hn⟩ := Ev.rounds (lG l c h)
  exact ⟨_, _, n, hn, sv _ _ h hc.1 (by omega), by rw [jP l.length c hc.1 (by omega)]; omega⟩
theorem pz (l : List Int) (h : l.length ≤ 1048576) : ∃ k b n, eP n l 1 = some (k, b) ∧ ∃ m, gD m b 1 = some k ∧ ¬ k < 0 := by
  obtain ⟨n, hn⟩ := Ev.rounds (lG l 1 h)
  obtain ⟨m, hm⟩ := Ev.rounds (q8 l.length 1 h)
  exact ⟨_, _, n, hn, m, hm, sw _ h⟩
end Go.Proofs.YtjgcehldepfaaaaGreat.P
namespace Go.Proofs.YtjgcehldepfaaaaGreat.P
open Go.RowKit YtjgcehldepfaaaaGreatW.PrintWords Go.Proofs.YtjgcehldepfaaaaGreatW.PrintLast Go.Proofs.YtjgcehldepfaaaaGreatW.PrintMore
set_option linter.unusedVariables false
set_option linter.unusedSimpArgs false

/-- The space of the independent sets with lo to hi nodes. -/
def i9 (a : Int) (e : List S63) (k0 lo hi kind : Int) : List (List Int) × List S63 × Bool :=
  if (bA a e && (decide (0 ≤ k0) && decide (k0 ≤ 8))) = true then (bo a.toNat e lo hi, aT (dF e kind) 0 (bo a.toNat e lo hi), true) else ([], [], false)
theorem qn (n : Nat) (hn : n ≤ 8) (e : List S63) (lo hi kind : Int) (f : Nat → List Int → List Int → Option Bool) (h : ∀ x y, SetN 8 x → SetN 8 y → Ev (fun k => f k x y) (dF e kind x y)) : Ev (fun k => fA (i3 (f k) (dF e kind) (bo n e lo hi)) (dF e kind) (bo n e lo hi)) (bo n e lo hi, aT (dF e kind) 0 (bo n e lo hi), true) := by
  have h2 := mi hn e lo hi
  exact nQ f _ _ (by omega) (fun x hx y hy => h x y (iS hn hx) (iS hn hy)) (rq hn e lo hi)
theorem jd (e : List S63) : dF e 0 = ba e := by funext x y; unfold dF; rw [if_neg (by decide), if_neg (by decide)]
theorem qJ (a : Int) (e : List S63) (k0 : Int) (he : e.length ≤ 1048576) : Ev (fun k => fT k a e k0) (i9 a e k0 k0 k0 0) := by
  unfold fT i9
  refine Ev.bind (qv a e k0 he) ?_
  unfold iH
  by_cases c : (bA a e && (decide (0 ≤ k0) && decide (k0 ≤ 8))) = true
  · rw [if_pos c, if_pos c]
    have hg := ((Bool.and_eq_true _ _).mp c).1
    have h1 := dN hg
    obtain ⟨n, rfl⟩ := Int.eq_ofNat_of_zero_le h1.1
    refine Ev.pos rfl ?_
    rw [Int.toNat_natCast]
    have := qn n (by omega) e k0 k0 0 (fun k => eY k (n : Int) e) (fun x y hx hy => by rw [jd]; exact nY (n : Int) e he (fun s hs => (h1.2.2 s hs).2.1) hx hy)
    rw [jd] at this ⊢
    exact this
  · rw [if_neg c, if_neg c]
    exact Ev.neg (by decide) (Ev.now _)
end Go.Proofs.YtjgcehldepfaaaaGreat.P
namespace Go.Proofs.YtjgcehldepfaaaaGreat.P
open Go.RowKit YtjgcehldepfaaaaGreatW.PrintWords Go.Proofs.YtjgcehldepfaaaaGreatW.PrintLast Go.Proofs.YtjgcehldepfaaaaGreatW.PrintMore
set_option linter.unusedVariables false
set_option linter.unusedSimpArgs false

theorem rl (n : Int) (l : List S63) : ∀ p, (∀ e ∈ l, 0 ≤ e.f0 ∧ e.f0 < e.f1 ∧ e.f1 < n) → l.Pairwise (fun a b => bF a b = true) → (∀ q, p = some q → ∀ s ∈ l, bF q s = true) → bM n p l = true := by
  induction l with
  | nil => intro p _ _ _; rfl
  | cons x t ih =>
    intro p h1 h2 h3
    have h4 := h1 x (List.mem_cons_self ..)
    rw [List.pairwise_cons] at h2
    have h5 := ih (some x) (fun e he => h1 e (List.mem_cons_of_mem _ he)) h2.2 (fun q hq s hs => by injection hq with hq; subst hq; exact h2.1 s hs)
    simp only [bM, Bool.and_eq_true, decide_eq_true_eq]
    refine ⟨⟨⟨h4.1, h4.2.1⟩, h4.2.2⟩, ?_, h5⟩
    cases p with
    | none => rfl
    | some q => exact h3 q rfl x (List.mem_cons_self ..)
theorem jo (st : List Int → List Int → Bool) (a : List Int) (i : Nat) (t : List (List Int)) : ∀ k, ∀ e ∈ bX st a i k t, e.f0 = (i : Int) ∧ (k : Int) ≤ e.f1 ∧ e.f1 < ((k + t.length : Nat) : Int) := by
  induction t with
  | nil => intro k e he; cases he
  | cons b t ih =>
    intro k e he
    simp only [bX, List.mem_append] at he
    rcases he with he | he
    · split at he
      · rw [List.mem_singleton] at he
        subst he
        exact ⟨rfl, Int.le_refl _, by rw [List.length_cons]; show (k : Int) < _; omega⟩
      · cases he
    · have := ih (k + 1) e he
      rw [List.length_cons]
      exact ⟨this.1, by omega, by omega⟩
theorem ow (st : List Int → List Int → Bool) (a : List Int) (i : Nat) (t : List (List Int)) : ∀ k, (bX st a i k t).Pairwise (fun a b => a.f0 = b.f0 ∧ a.f1 < b.f1) := by
  induction t with
  | nil => intro k; exact .nil
  | cons b t ih =>
    intro k
    simp only [bX]
    rw [List.pairwise_append]
    refine ⟨by split <;> simp, ih (k + 1), fun x hx y hy => ?_⟩
    have h2 := jo st a i t (k + 1) y hy
    split at hx
    · rw [List.mem_singleton] at hx
      subst hx
      exact ⟨h2.1.symm, by show (k : Int) < _; omega⟩
    · cases hx
theorem mI (st : List Int → List Int → Bool) (t : List (List Int)) : ∀ i, ∀ e ∈ aT st i t, (i : Int) ≤ e.f0 ∧ e.f0 < e.f1 ∧ e.f1 < ((i + t.length : Nat) : Int) := by
  induction t with
  | nil => intro i e he; cases he
  | cons b t ih =>
    intro i e he
    simp only [aT, List.mem_append] at he
    rw [List.length_cons]
    rcases he with he | he
    · have := jo st b i t (i + 1) e he
      exact ⟨by omega, by omega, by omega⟩
    · have := ih (i + 1) e he
      exact ⟨by omega, by omega, by omega⟩
theorem tl (st : List Int → List Int → Bool) (t : List (List Int)) : ∀ i, (aT st i t).Pairwise (fun a b => a.f0 < b.f0 ∨ (a.f0 = b.f0 ∧ a.f1 < b.f1)) := by
  induction t with
  | nil => intro i; exact .nil
  | cons b t ih =>
    intro i
    simp only [aT]
    rw [List.pairwise_append]
    refine ⟨(ow st b i t (i + 1)).imp fun h => .inr h, ih (i + 1), fun x hx y hy => .inl ?_⟩
    have h1 := jo st b i t (i + 1) x hx
    have h2 := mI st t (i + 1) y hy
    omega
theorem tm (st : List Int → List Int → Bool) (t : List (List Int)) : bM (t.length : Int) none (aT st 0 t) = true := by
  refine rl _ _ _ (fun e he => ?_) ((tl st t 0).imp fun {a b} h => ?_) (fun q hq => by cases hq)
  · have := mI st t 0 e he
    exact ⟨by omega, by omega, by omega⟩
  · unfold bF
    rcases h with h | h
    · simp [h]
    · simp [h.1, h.2]
theorem m5 {n : Nat} (hn : n ≤ 8) (e : List S63) (lo hi kind : Int) : gz (bo n e lo hi) (aT (dF e kind) 0 (bo n e lo hi)) := by
  have h2 := mi hn e lo hi
  have h3 := mJ (dF e kind) (bo n e lo hi) 0
  have h4 : (bo n e lo hi).length * (bo n e lo hi).length ≤ 256 * 256 := Nat.mul_le_mul h2 h2
  exact ⟨by omega, fun s hs => by have := gA (iS hn hs); omega, by omega⟩
end Go.Proofs.YtjgcehldepfaaaaGreat.P
namespace Go.Proofs.YtjgcehldepfaaaaGreat.P
open Go.RowKit YtjgcehldepfaaaaGreatW.PrintWords Go.Proofs.YtjgcehldepfaaaaGreatW.PrintLast Go.Proofs.YtjgcehldepfaaaaGreatW.PrintMore
set_option linter.unusedVariables false
set_option linter.unusedSimpArgs false

section
variable {z : List (List Int)} (hn : z.length ≤ 1048576) (hr : ∀ i, (al z i).length ≤ 1048576) {D : List Int} (hD : D.length = z.length)
include hn hr hD
end
theorem om (l : List (List Int)) (h : LexS l) (q : Nat) (hq : q < l.length) : cw (fun i => bC (l.getD i []) l[q]) (l.length + 1) 0 l.length = q := by
  refine sW _ l.length q (fun i hi => ?_) (fun i hi hn => ?_) _ _ _ (Nat.zero_le _) (by omega) (av _) (by omega)
  · rw [jS, List.getD_eq_getElem?_getD, List.getElem?_eq_getElem (by omega), Option.getD_some]
    exact List.pairwise_iff_getElem.1 h i q (by omega) hq hi
  · rw [jS, List.getD_eq_getElem?_getD, List.getElem?_eq_getElem hn, Option.getD_some]
    by_cases c : i = q
    · subst c
      rw [gX]
      decide
    · rw [jZ (List.pairwise_iff_getElem.1 h q i hq hn (by omega))]
      decide
section
variable (l : List (List Int)) (e : List S63) (hm : gz l e)
include hm
section
variable (R : List Int) (hR : R.length ≤ 1048576) (hx : ∀ x ∈ R, 0 ≤ x ∧ x < (l.length : Int))
include hR hx
end
end
end Go.Proofs.YtjgcehldepfaaaaGreat.P
namespace Go.Proofs.YtjgcehldepfaaaaGreat.P
open Go.RowKit YtjgcehldepfaaaaGreatW.PrintWords Go.Proofs.YtjgcehldepfaaaaGreatW.PrintLast Go.Proofs.YtjgcehldepfaaaaGreatW.PrintMore
set_option linter.unusedVariables false
set_option linter.unusedSimpArgs false

def dy (a : Int) (e : List S63) (l : List Int) : Bool := bz 0 (wrap64 (a - 1)) none l && cK e l
def hF (a : Int) (e : List S63) (x y : List Int) : Bool := bA a e && (dy a e x && dy a e y)
theorem rr (a : Int) (e : List S63) (l : List Int) (he : e.length ≤ 1048576) (hl : l.length ≤ 1048576) (hg : bA a e = true) : Ev (fun k => ga k a e l) (dy a e l) := by
  have h1 := dN hg
  have := pU a e l he hl
  rw [rx e l _ (fun s hs => (h1.2.2 s hs).2.1)] at this
  exact this
theorem oc {n : Nat} {e : List S63} {l : List Int} (hn : n ≤ 8) (h : dy (n : Int) e l = true) : SetN n l ∧ cK e l = true := by
  unfold dy at h
  rw [Bool.and_eq_true, bV (by omega) (by omega)] at h
  exact ⟨SetN.of_ris h.1, h.2⟩
theorem m3 (a : Int) (e : List S63) (x y : List Int) (he : e.length ≤ 1048576) (hx : x.length ≤ 1048576) (hy : y.length ≤ 1048576) : Ev (fun k => gI k a e x y) (hF a e x y) := by
  unfold gI hF
  refine Ev.bind (iM _ e he) ?_
  by_cases hg : bA a e = true
  · rw [hg, Bool.true_and]
    refine Ev.pos rfl ?_
    refine Ev.bind (a := dy a e x) (lV a e x hx hg) ?_
    cases c : dy a e x with
    | true => exact Ev.pos rfl (Ev.bind (a := dy a e y) (lV a e y hy hg) (Ev.now _))
    | false => exact Ev.neg (by decide) (Ev.now _)
  · rw [Bool.eq_false_iff.mpr hg, Bool.false_and]
    exact Ev.neg (by decide) (Ev.now _)
end Go.Proofs.YtjgcehldepfaaaaGreat.P
namespace Go.Proofs.YtjgcehldepfaaaaGreat.P
open Go.RowKit YtjgcehldepfaaaaGreatW.PrintWords Go.Proofs.YtjgcehldepfaaaaGreatW.PrintLast Go.Proofs.YtjgcehldepfaaaaGreatW.PrintMore
set_option linter.unusedVariables false
set_option linter.unusedSimpArgs false
def gR (a b : List Int) : List Int := a.filter fun x => decide (x ∈ b)
theorem mw {a : List Int} (h : SetN 8 a) (b : List Int) : SetN 8 (gR a b) := ⟨h.1.filter _, fun z hz => h.2 z (List.mem_filter.1 hz).1⟩
theorem sY {b c : Int} (hb : 0 ≤ b ∧ b < 256) (hc : 0 ≤ c ∧ c < 256) : (0 ≤ Go.bits .and .u64 b c ∧ Go.bits .and .u64 b c < 256) ∧ ∀ y, 0 ≤ y → y < 8 → aG (Go.bits .and .u64 b c) y = (aG b y && aG c y) := by
  obtain ⟨n, rfl⟩ := Int.eq_ofNat_of_zero_le hb.1
  obtain ⟨m, rfl⟩ := Int.eq_ofNat_of_zero_le hc.1
  have hn : n < 256 := by omega
  have hm : m < 256 := by omega
  have h1 : n &&& m ≤ n := Nat.and_le_left
  rw [(bits_nat .u64 8 (by decide) i6 n m hn hm).1]
  refine ⟨by omega, fun y h0 h8 => ?_⟩
  obtain ⟨z, rfl⟩ := Int.eq_ofNat_of_zero_le h0
  rw [fX _ z (by omega) (by omega), fX n z hn (by omega), fX m z hm (by omega), Nat.testBit_and]
theorem tj {x y : List Int} (hx : SetN 8 x) (hy : SetN 8 y) {b : Int} (hb : 0 ≤ b ∧ b < 256) (hbx : bN b = x) : bN (Go.bits .and .u64 b (aJ 0 y)) = gR x y ∧ (0 ≤ Go.bits .and .u64 b (aJ 0 y) ∧ Go.bits .and .u64 b (aJ 0 y) < 256) := by
  have h2 := (hy.code (by decide)).1
  have h3 := sY (b := b) (c := aJ 0 y) hb (by omega)
  refine ⟨?_, h3.1⟩
  refine jv (gu _ _ _) (mw hx y).1 fun z => ?_
  have hm : z ∈ x ↔ (0 ≤ z ∧ z < 0 + ((8 : Nat) : Int)) ∧ aG b z = true := by rw [← hbx]; exact cT _ _ _ _
  unfold gR bN
  rw [cT, List.mem_filter, hm, decide_eq_true_eq]
  constructor
  · rintro ⟨h4, h5⟩
    rw [h3.2 z (by omega) (by omega), f4 hy z (by omega) (by omega), Bool.and_eq_true, decide_eq_true_eq] at h5
    exact ⟨⟨h4, h5.1⟩, h5.2⟩
  · rintro ⟨⟨h4, h5⟩, h6⟩
    refine ⟨h4, ?_⟩
    rw [h3.2 z (by omega) (by omega), f4 hy z (by omega) (by omega), h5, af h6]
    rfl

/-! Edges. -/
def aX (e : List S63) : List (Int × Int) := e.map fun s => (s.f0, s.f1)
theorem eG (e : List S63) (x y : Int) : FPure.Adj (aX e) x y ↔ aW e x y = true := by
  rw [fc]
  unfold FPure.Adj aX
  rw [List.mem_map, List.mem_map]
  constructor
  · rintro (⟨s, hs, h⟩ | ⟨s, hs, h⟩) <;> injection h with h1 h2
    · exact ⟨s, hs, .inl ⟨h1, h2⟩⟩
    · exact ⟨s, hs, .inr ⟨h1, h2⟩⟩
  · rintro ⟨s, hs, ⟨h1, h2⟩ | ⟨h1, h2⟩⟩
    · exact .inl ⟨s, hs, by rw [h1, h2]⟩
    · exact .inr ⟨s, hs, by rw [h1, h2]⟩
/-- All nodes. -/
def bI (n : Nat) : List Int := (List.range n).map fun (k : Nat) => (k : Int)
theorem eF (n : Nat) (x : Int) : x ∈ bI n ↔ 0 ≤ x ∧ x < (n : Int) := by
  unfold bI
  rw [List.mem_map]
  constructor
  · rintro ⟨k, hk, rfl⟩
    rw [List.mem_range] at hk
    omega
  · intro h
    exact ⟨x.toNat, List.mem_range.2 (by omega), by omega⟩
theorem iZ (n : Nat) : (bI n).Pairwise (· < ·) := by
  unfold bI
  rw [List.pairwise_map]
  exact List.Pairwise.imp (fun {a b} (h : a < b) => by omega) List.pairwise_lt_range
theorem tq (n : Nat) : (bI n).length = n := by simp [bI]
theorem pn : ∀ n : Fin 9, wrap64 ((cA .i64 1 n) - 1) = ((2 ^ n.val - 1 : Nat) : Int) ∧ bN ((2 ^ n.val - 1 : Nat) : Int) = (List.range n).map fun (k : Nat) => (k : Int) := by decide +kernel
theorem im {l : List Int} (h : l.Pairwise (· < ·)) : l.Nodup := h.imp (fun h => by omega)
section
variable (n : Nat) (hn : n ≤ 8) (e : List S63) (he : e.length ≤ 1048576) (hg : bA (n : Int) e = true)
include hn he hg
/-- How many parts a graph has. -/
noncomputable def bT (n : Nat) (e : List S63) : Nat := (bP (aC n e) (fun _ => False) n 0).length
omit hn he hg in
theorem ld {i j : Int} : br (aC n e) (fun y => y ∉ bI n) i j ↔ br (aC n e) (fun _ => False) i j := by
  constructor
  · intro h
    exact h (fun k => br (aC n e) (fun _ => False) i k) (fun a a0 a1 ha b hb _ => fI ha a0 a1 hb (fun h => h)) (eO i)
  · intro h
    refine h (fun k => br (aC n e) (fun y => y ∉ bI n) i k) (fun a a0 a1 ha b hb _ => fI ha a0 a1 hb (fun h => h ?_)) (eO i)
    rw [bW] at a1
    exact (eF n b).2 ((fG n e a0 a1).1 hb).1
omit hn he hg in
theorem oM : bP (aC n e) (fun y => y ∉ bI n) n 0 = bP (aC n e) (fun _ => False) n 0 := by
  rw [et, et]
  refine List.filter_congr fun i hi => ?_
  rw [List.mem_range'_1] at hi
  have h0 : ∀ i' : Nat, i' < n → (i' : Int) ∈ bI n := fun i' h => (eF n _).2 (by omega)
  rw [decide_eq_decide]
  unfold cE
  constructor
  · rintro ⟨_, h2⟩
    exact ⟨fun h => h, fun i' hi' _ hr => h2 i' hi' (fun h => h (h0 i' (by omega))) (ld n e |>.2 hr)⟩
  · rintro ⟨_, h2⟩
    exact ⟨fun h => h (h0 i (by omega)), fun i' hi' _ hr => h2 i' hi' (fun h => h) (ld n e |>.1 hr)⟩
omit hn he hg in
theorem my : bT n e ≤ n := by
  unfold bT
  rw [et]
  have := List.length_filter_le (fun i => @decide (cE (aC n e) (fun _ => False) i) (Classical.propDecidable _)) (List.range' 0 n)
  rw [List.length_range'] at this
  exact this
omit hg in
theorem nO : Ev (fun k => eI k (n : Int) e) (decide (e.length + bT n e = n)) := by
  have h1 := pn ⟨n, by omega⟩
  have hp : 2 ^ n ≤ 256 := Nat.pow_le_pow_right (n := 2) (by decide) (show n ≤ 8 from hn)
  have hp1 : 1 ≤ 2 ^ n := Nat.one_le_two_pow
  have hc := my n e
  unfold eI
  refine Ev.pos (by omega) ?_
  have hw : wrap64 ((cA .i64 1 (n : Int)) - 1) = ((2 ^ n - 1 : Nat) : Int) := h1.1
  rw [hw]
  refine Ev.bind (s8 n _ hn (by omega)) ?_
  have hb : bN ((2 ^ n - 1 : Nat) : Int) = bI n := h1.2
  rw [hb]
  refine Ev.bind (o7 n hn e he (bI n) (iZ n) (fun x hx => (eF n x).1 hx)) ?_
  rw [List.length_map, oM]
  have hw2 : wrap64 ((n : Int) - (bT n e : Int)) = (n : Int) - (bT n e : Int) := bV (by omega) (by omega)
  have hcl : (bP (aC n e) (fun _ => False) n 0).length = bT n e := rfl
  rw [hcl, hw2]
  have : ((e.length : Int) == (n : Int) - (bT n e : Int)) = decide (e.length + bT n e = n) := by
    rw [Bool.eq_iff_iff, beq_iff_eq, decide_eq_true_eq]; omega
  rw [this]
  exact Ev.now _
theorem qw : Ev (fun k => fa k (n : Int) e) (decide (e.length + bT n e = n)) := by
  have h1 := dN hg
  have hc := my n e
  have hlen := bW n e
  unfold fa
  refine Ev.bind (oE n hn e he (fun s hs => (h1.2.2 s hs).2.1)) ?_
  refine Ev.bind (o9 (z := aC n e) (by rw [hlen]; omega) (kR n e).1 (ou n hn e) (kQ n e)) ?_
  rw [List.length_map, hlen]
  have hcl : (bP (aC n e) (fun _ => False) n 0).length = bT n e := rfl
  have hw2 : wrap64 ((e.length : Int) + (bT n e : Int)) = (e.length : Int) + (bT n e : Int) := bV (by omega) (by omega)
  rw [hcl, hw2]
  have : ((e.length : Int) + (bT n e : Int) == (n : Int)) = decide (e.length + bT n e = n) := by
    rw [Bool.eq_iff_iff, beq_iff_eq, decide_eq_true_eq]; omega
  rw [this]
  exact Ev.now _
omit he hn in
theorem fi {x y : Int} (h : FPure.Adj (aX e) x y) : (0 ≤ x ∧ x < (n : Int)) ∧ (0 ≤ y ∧ y < (n : Int)) ∧ x ≠ y := by
  have h1 := dN hg
  rw [eG, fc] at h
  obtain ⟨s, hs, h⟩ := h
  have := h1.2.2 s hs
  omega
omit hn he hg in
/-- Where edges and parts are as many as nodes, the graph is a tree in each part. -/
theorem m4 (hf : e.length + bT n e = n) : FPure.Tree (aX e) := by
  intro u a b ha hb hab
  have hlen := bW n e
  refine FPure.key_of (V := bI n) (L := (bP (aC n e) (fun _ => False) n 0).map (fun (i : Nat) => (i : Int))) (im (iZ n)) (fun v hv => ?_) (by
    rw [tq, List.length_map]
    unfold aX
    rw [List.length_map]
    unfold bT at hf
    omega) ha hb hab
  have hv2 := (eF n v).1 hv
  obtain ⟨m, h1, h2, h3⟩ := pJ (p := fun i => br (aC n e) (fun _ => False) (i : Int) v) (n := v.toNat) (by rw [show ((v.toNat : Nat) : Int) = v by omega]; exact eO v)
  refine ⟨(m : Int), List.mem_map.2 ⟨m, ?_, rfl⟩, ?_⟩
  · rw [et, List.mem_filter]
    refine ⟨by rw [List.mem_range'_1]; omega, ?_⟩
    have hrep : cE (aC n e) (fun _ => False) m := ⟨fun h => h, fun i' hi' _ hr => h3 i' hi' (fH hr h2)⟩
    simpa using hrep
  · refine FPure.Conn.symm ?_
    refine h2 (fun k => FPure.Conn (aX e) (m : Int) k) (fun a a0 a1 hc b hb _ => ?_) (.refl _)
    rw [hlen] at a1
    exact .step hc ((eG e a b).2 ((fG n e a0 a1).1 hb).2)
end
section
variable (n : Nat) (hn : n ≤ 8) (e : List S63) (he : e.length ≤ 1048576) (hg : bA (n : Int) e = true) (hT : FPure.Tree (aX e)) (set : List Int) (hset : SetN n set)
include hn he hg hT hset
omit hn he hT hset in
theorem fO (x y : Int) : y ∈ bn e x n 0 ↔ FPure.Adj (aX e) x y := by
  rw [lE, eG]
  constructor
  · exact fun h => h.2
  · intro h
    have := fi n e hg ((eG e x y).2 h)
    exact ⟨by omega, h⟩
omit he hg hT in
/-- Whether a neighbor's next ones hold a locked one. -/
theorem nm (x g : Int) (near : List Int) (hnear : near.length ≤ 8) (i : Nat) (hi : i < near.length) (N : Nat) (next : List Int) (hnext : next.length ≤ 8)
    (hst : ∀ w ∈ next, w ≠ x → w ∈ set → ∃ b, Ev (fun k => dt k (n : Int) e set w near[i]) b ∧ (b = true → FPure.St (aX e) (· ∈ set) N w near[i]) ∧ (b = false → FPure.Nst (aX e) (· ∈ set) N w near[i])) (d : Nat) :
    ∀ (j : Nat) (h : Bool), next.length - j = d → j ≤ next.length → ∃ h' : Bool, (h' = true → h = true ∨ ∃ w ∈ next.drop j, w ≠ x ∧ w ∈ set ∧ FPure.St (aX e) (· ∈ set) N w near[i]) ∧ (h' = false → h = false ∧ ∀ w ∈ next.drop j, w ≠ x → w ∈ set → FPure.Nst (aX e) (· ∈ set) N w near[i]) ∧
      ∀ R, (h' = true → Ev (fun k => cN k set x g near ((i + 1 : Nat) : Int) (n : Int) e) R) → (h' = false → R = false) → Ev (fun k => bJ k set x g near (i : Int) h next (j : Int) (n : Int) e) R := by
  have hw := Aside0.mk (aH hi (by omega))
  have hsl := hset.len
  induction d with
  | zero =>
    intro j h h0 h1
    refine ⟨h, fun hh => .inl hh, fun hh => ⟨hh, fun w hw => ?_⟩, fun R h2 h3 => ?_⟩
    · rw [List.drop_eq_nil_of_le (by omega)] at hw; cases hw
    · refine Ev.step (fun k => by rw [bJ]) (Ev.neg (by omega) ?_)
      cases h with
      | true => refine Ev.pos rfl ?_; rw [hw.out]; exact h2 rfl
      | false => refine Ev.neg (by decide) ?_; rw [h3 rfl]; exact Ev.now _
  | succ d ih =>
    intro j h h0 h1
    have hj : j < next.length := by omega
    have hd := List.drop_eq_getElem_cons hj
    have hwj := Aside0.mk (aH hj (by omega))
    cases h with
    | true =>
      obtain ⟨h', a1, a2, a3⟩ := ih (j + 1) true (by omega) (by omega)
      refine ⟨h', fun _ => .inl rfl, fun hh => absurd (a2 hh).1 (by decide), fun R h2 h3 => ?_⟩
      refine Ev.step (fun k => by rw [bJ]) (Ev.pos (by omega) (Ev.pos rfl ?_))
      rw [hwj.out]
      exact a3 R h2 h3
    | false =>
      by_cases cx : next[j] = x
      · obtain ⟨h', a1, a2, a3⟩ := ih (j + 1) false (by omega) (by omega)
        refine ⟨h', fun hh => ?_, fun hh => ⟨rfl, fun w hw => ?_⟩, fun R h2 h3 => ?_⟩
        · rcases a1 hh with h4 | ⟨w, hw, h4⟩
          · exact .inl h4
          · exact .inr ⟨w, by rw [hd]; exact .tail _ hw, h4⟩
        · rw [hd] at hw
          rcases List.mem_cons.1 hw with rfl | hw
          · exact fun h5 => absurd cx h5
          · exact (a2 hh).2 w hw
        · refine Ev.step (fun k => by rw [bJ]) (Ev.pos (by omega) (Ev.neg (by decide) (Ev.pos (by omega) ?_)))
          rw [aK next j hj]
          refine Ev.pos cx ?_
          rw [hwj.out]
          exact a3 R h2 h3
      · by_cases cs : next[j] ∈ set
        · obtain ⟨b, b1, b2, b3⟩ := hst next[j] (List.getElem_mem hj) cx cs
          obtain ⟨h', a1, a2, a3⟩ := ih (j + 1) b (by omega) (by omega)
          refine ⟨h', fun hh => .inr ?_, fun hh => ⟨rfl, fun w hw => ?_⟩, fun R h2 h3 => ?_⟩
          · rcases a1 hh with h4 | ⟨w, hw, h4⟩
            · exact ⟨next[j], by rw [hd]; exact .head _, cx, cs, b2 h4⟩
            · exact ⟨w, by rw [hd]; exact .tail _ hw, h4⟩
          · rw [hd] at hw
            rcases List.mem_cons.1 hw with rfl | hw
            · exact fun _ _ => b3 (a2 hh).1
            · exact (a2 hh).2 w hw
          · refine Ev.step (fun k => by rw [bJ]) (Ev.pos (by omega) (Ev.neg (by decide) (Ev.pos (by omega) ?_)))
            rw [aK next j hj]
            refine Ev.neg cx ?_
            refine Ev.bind (fP set next[j] (by omega)) ?_
            rw [af cs]
            refine Ev.pos rfl (Ev.pos (by omega) (Ev.pos (by omega) ?_))
            rw [aK near i hi]
            refine Ev.bind b1 ?_
            rw [hwj.out]
            exact a3 R h2 h3
        · obtain ⟨h', a1, a2, a3⟩ := ih (j + 1) false (by omega) (by omega)
          refine ⟨h', fun hh => ?_, fun hh => ⟨rfl, fun w hw => ?_⟩, fun R h2 h3 => ?_⟩
          · rcases a1 hh with h4 | ⟨w, hw, h4⟩
            · exact .inl h4
            · exact .inr ⟨w, by rw [hd]; exact .tail _ hw, h4⟩
          · rw [hd] at hw
            rcases List.mem_cons.1 hw with rfl | hw
            · exact fun _ h5 => absurd h5 cs
            · exact (a2 hh).2 w hw
          · refine Ev.step (fun k => by rw [bJ]) (Ev.pos (by omega) (Ev.neg (by decide) (Ev.pos (by omega) ?_)))
            rw [aK next j hj]
            refine Ev.neg cx ?_
            refine Ev.bind (fP set next[j] (by omega)) ?_
            rw [au cs]
            refine Ev.neg (by decide) ?_
            rw [hwj.out]
            exact a3 R h2 h3
omit hg hT in
theorem nl (x g : Int) (near : List Int) (hnear : near.length ≤ 8) (N : Nat)
    (hst : ∀ v ∈ near, v ≠ g → ∀ w ∈ bn e v n 0, w ≠ x → w ∈ set → ∃ b, Ev (fun k => dt k (n : Int) e set w v) b ∧ (b = true → FPure.St (aX e) (· ∈ set) N w v) ∧ (b = false → FPure.Nst (aX e) (· ∈ set) N w v)) (d : Nat) :
    ∀ (i : Nat), near.length - i = d → i ≤ near.length → ∃ b : Bool, Ev (fun k => cN k set x g near (i : Int) (n : Int) e) b ∧
      (b = true → ∀ v ∈ near.drop i, v ≠ g → ∃ w ∈ bn e v n 0, w ≠ x ∧ w ∈ set ∧ FPure.St (aX e) (· ∈ set) N w v) ∧ (b = false → ∃ v ∈ near.drop i, v ≠ g ∧ ∀ w ∈ bn e v n 0, w ≠ x → w ∈ set → FPure.Nst (aX e) (· ∈ set) N w v) := by
  induction d with
  | zero =>
    intro i h0 h1
    refine ⟨true, ?_, fun _ v hv => ?_, fun h => by cases h⟩
    · exact Ev.step (fun k => by rw [cN]) (Ev.neg (by omega) (Ev.now _))
    · rw [List.drop_eq_nil_of_le (by omega)] at hv; cases hv
  | succ d ih =>
    intro i h0 h1
    have hi : i < near.length := by omega
    have hd := List.drop_eq_getElem_cons hi
    obtain ⟨b, b1, b2, b3⟩ := ih (i + 1) (by omega) (by omega)
    by_cases cg : near[i] = g
    · refine ⟨b, ?_, fun hb v hv hvg => ?_, fun hb => ?_⟩
      · refine Ev.step (fun k => by rw [cN]) (Ev.pos (by omega) (Ev.pos (by omega) ?_))
        rw [aK near i hi]
        refine Ev.pos cg ?_
        rw [aH hi (by omega)]
        exact b1
      · rw [hd] at hv
        rcases List.mem_cons.1 hv with rfl | hv
        · exact absurd cg hvg
        · exact b2 hb v hv hvg
      · obtain ⟨v, hv, h⟩ := b3 hb
        exact ⟨v, by rw [hd]; exact .tail _ hv, h⟩
    · have hnl := iq e near[i] n 0
      obtain ⟨h', a1, a2, a3⟩ := nm n hn e set hset x g near hnear i hi N (bn e near[i] n 0) (by omega) (hst near[i] (List.getElem_mem hi) cg) _ 0 false rfl (Nat.zero_le _)
      rw [List.drop_zero] at a1 a2
      have start : ∀ R, Ev (fun k => bJ k set x g near (i : Int) false (bn e near[i] n 0) ((0 : Nat) : Int) (n : Int) e) R → Ev (fun k => cN k set x g near (i : Int) (n : Int) e) R := by
        intro R hR
        refine Ev.step (fun k => by rw [cN]) (Ev.pos (by omega) (Ev.pos (by omega) ?_))
        rw [aK near i hi]
        refine Ev.neg cg ?_
        have hnb := lT (n : Int) e near[i] he (by omega)
        rw [Int.toNat_natCast] at hnb
        refine Ev.bind hnb ?_
        simpa only [Int.natCast_zero] using hR
      cases h' with
      | true =>
        refine ⟨b, start b (a3 b (fun _ => b1) (fun h => by cases h)), fun hb v hv hvg => ?_, fun hb => ?_⟩
        · rw [hd] at hv
          rcases List.mem_cons.1 hv with rfl | hv
          · exact (a1 rfl).resolve_left (by decide)
          · exact b2 hb v hv hvg
        · obtain ⟨v, hv, h⟩ := b3 hb
          exact ⟨v, by rw [hd]; exact .tail _ hv, h⟩
      | false =>
        refine ⟨false, start false (a3 false (fun h => by cases h) (fun _ => rfl)), (fun h => by cases h), fun _ => ⟨near[i], by rw [hd]; exact .head _, cg, (a2 rfl).2⟩⟩
/-- spec's rule answers, in as many rounds as there are nodes behind. -/
theorem np (m : Nat) : ∀ (x g : Int), (0 ≤ x ∧ x < (n : Int)) → (FPure.Adj (aX e) g x ∨ ∀ z, ¬ FPure.Adj (aX e) z g) → x ≠ g → FPure.cnt (aX e) (bI n) x g ≤ m →
    ∃ b, Ev (fun k => dt k (n : Int) e set x g) b ∧ (b = true → FPure.St (aX e) (· ∈ set) m x g) ∧ (b = false → FPure.Nst (aX e) (· ∈ set) m x g) := by
  have hI : ∀ z, ¬ FPure.Adj (aX e) z z := fun z h => (fi n e hg h).2.2 rfl
  induction m with
  | zero =>
    intro x g hx hgx hne hc
    exfalso
    have : 0 < FPure.cnt (aX e) (bI n) x g := by
      unfold FPure.cnt
      refine List.length_pos_of_mem (a := x) ?_
      rw [List.mem_filter]
      exact ⟨(eF n x).2 hx, by simpa using FPure.Av.refl hne⟩
    omega
  | succ m ih =>
    intro x g hx hgx hne hc
    have hnl := iq e x n 0
    obtain ⟨b, b1, b2, b3⟩ := nl n hn e he set hset x g (bn e x n 0) (by omega) m (fun v hv hvg w hw hwx hws => by
      have hxv := (fO n e hg x v).1 hv
      have hvw := (fO n e hg v w).1 hw
      have hin := fi n e hg hvw
      have := FPure.cnt_lt (V := bI n) hT hI ((eF n x).2 hx) hgx hne hxv hvg hvw hwx
      exact ih w v hin.2.1 (.inl hvw) (fun e => hin.2.2 e.symm) (by omega)) _ 0 rfl (Nat.zero_le _)
    rw [List.drop_zero] at b2 b3
    refine ⟨b, ?_, fun hb v hv hvg => ?_, fun hb => ?_⟩
    · refine Ev.step (fun k => by rw [dt]) ?_
      have hnb := lT (n : Int) e x he (by omega)
      rw [Int.toNat_natCast] at hnb
      refine Ev.bind hnb ?_
      simpa only [Int.natCast_zero] using b1
    · obtain ⟨w, h1, h2, h3, h4⟩ := b2 hb v ((fO n e hg x v).2 hv) hvg
      exact ⟨w, (fO n e hg v w).1 h1, h2, h3, h4⟩
    · obtain ⟨v, h1, h2, h3⟩ := b3 hb
      exact ⟨v, (fO n e hg x v).1 h1, h2, fun w hw hwx hws => h3 w ((fO n e hg v w).2 hw) hwx hws⟩
/-- What no row of slides ir. -/
def fj (e : List S63) (set : List Int) (x : Int) : Prop := ∀ T, FPure.Reach (aX e) (· ∈ set) T → T x
theorem nk (hfree : FPure.Ind (aX e) (· ∈ set)) (x : Int) (hx : x ∈ set) : ∃ b, Ev (fun k => dt k (n : Int) e set x (-1)) b ∧ (b = true ↔ fj e set x) := by
  have hI : ∀ z, ¬ FPure.Adj (aX e) z z := fun z h => (fi n e hg h).2.2 rfl
  have hV : ∀ x y, FPure.Adj (aX e) x y → y ∈ bI n := fun x y h => (eF n y).2 (fi n e hg h).2.1
  have hneg : ∀ z, ¬ FPure.Adj (aX e) z (-1) := fun z h => by have := (fi n e hg h).2.1; omega
  have hxr := hset.2 x hx
  obtain ⟨b, b1, b2, b3⟩ := np n hn e he hg hT set hset _ x (-1) hxr (.inr hneg) (by omega) (av _)
  have hr := FPure.rule hT hI hV (im (iZ n)) (S := (· ∈ set)) (x := x) (g := -1) hneg (by omega) hx hfree
  refine ⟨b, b1, fun hb => hr.1 ⟨_, b2 hb⟩, fun h => ?_⟩
  cases b with
  | true => rfl
  | false =>
    obtain ⟨T, h1, h2⟩ := hr.2 ⟨_, b3 rfl⟩
    exact absurd (h T h1) h2
open Classical in
theorem qY (hfree : FPure.Ind (aX e) (· ∈ set)) (d : Nat) : ∀ (m : Nat) (acc : List Int), set.length - m = d → m ≤ set.length → acc.length ≤ m →
    Ev (fun k => cO k set acc (m : Int) (n : Int) e) (acc ++ (set.drop m).filter fun x => decide (fj e set x)) := by
  have hsl := hset.len
  induction d with
  | zero =>
    intro m acc h0 h1 h2
    rw [List.drop_eq_nil_of_le (by omega), List.filter_nil, List.append_nil]
    exact Ev.step (fun k => by rw [cO]) (Ev.neg (by omega) (Ev.now _))
  | succ d ih =>
    intro m acc h0 h1 h2
    have hm : m < set.length := by omega
    obtain ⟨b, b1, b2⟩ := nk n hn e he hg hT set hset hfree set[m] (List.getElem_mem hm)
    rw [List.drop_eq_getElem_cons hm, List.filter_cons]
    refine Ev.step (fun k => by rw [cO]) (Ev.pos (by omega) (Ev.pos (by omega) ?_))
    rw [aK set m hm]
    refine Ev.bind b1 ?_
    by_cases c : b = true
    · rw [if_pos (af (b2.1 c))]
      refine Ev.pos c (Ev.pos (by omega) ?_)
      rw [aH hm (by omega)]
      have := ih (m + 1) (acc ++ [set[m]]) (by omega) (by omega) (by rw [List.length_append, List.length_singleton]; omega)
      rw [List.append_assoc, List.singleton_append] at this
      exact this
    · rw [if_neg (by simpa using fun h => c (b2.2 h))]
      refine Ev.neg c ?_
      rw [aH hm (by omega)]
      exact ih (m + 1) acc (by omega) (by omega) (by omega)
open Classical in
theorem qZ (hfree : FPure.Ind (aX e) (· ∈ set)) : Ev (fun k => dV k (n : Int) e set) (set.filter fun x => decide (fj e set x)) := by
  have := qY n hn e he hg hT set hset hfree _ 0 [] rfl (Nat.zero_le _) (av _)
  rw [List.drop_zero, List.nil_append] at this
  unfold dV
  simpa only [Int.natCast_zero] using this
end
/-! impl: all slides tried. -/
theorem kU (st : List Int → List Int → Bool) (a : List Int) (i : Nat) : ∀ (t : List (List Int)) (k : Nat) (p : S63), p ∈ bX st a i k t ↔ ∃ r : Nat, ∃ hr : r < t.length, p = ⟨(i : Int), ((k + r : Nat) : Int)⟩ ∧ st a t[r] = true
  | [], k, p => by simp [bX]
  | b :: t, k, p => by
    rw [bX, List.mem_append, kU st a i t (k + 1) p]
    constructor
    · rintro (h | ⟨r, hr, h1, h2⟩)
      · split at h
        · next c => exact ⟨0, by simp, by rw [List.mem_singleton.1 h]; simp, c⟩
        · simp at h
      · exact ⟨r + 1, by simp only [List.length_cons]; omega, by rw [h1]; congr 1; omega, by simpa using h2⟩
    · rintro ⟨r, hr, h1, h2⟩
      cases r with
      | zero => refine .inl ?_; rw [if_pos (by simpa using h2)]; rw [h1]; simp
      | succ r => exact .inr ⟨r, by simp only [List.length_cons] at hr; omega, by rw [h1]; congr 1; omega, by simpa using h2⟩
theorem g3 (st : List Int → List Int → Bool) : ∀ (t : List (List Int)) (i : Nat) (p : S63), p ∈ aT st i t ↔ ∃ q r : Nat, ∃ hq : q < t.length, ∃ hr : r < t.length, q < r ∧ p = ⟨((i + q : Nat) : Int), ((i + r : Nat) : Int)⟩ ∧ st t[q] t[r] = true
  | [], i, p => by simp [aT]
  | a :: t, i, p => by
    rw [aT, List.mem_append, kU, g3 st t (i + 1) p]
    constructor
    · rintro (⟨r, hr, h1, h2⟩ | ⟨q, r, hq, hr, h1, h2, h3⟩)
      · exact ⟨0, r + 1, by simp, by simp only [List.length_cons]; omega, by omega, by rw [h1]; congr 1; omega, by simpa using h2⟩
      · exact ⟨q + 1, r + 1, by simp only [List.length_cons]; omega, by simp only [List.length_cons]; omega, by omega, by rw [h2]; congr 1 <;> omega, by simpa using h3⟩
    · rintro ⟨q, r, hq, hr, h1, h2, h3⟩
      simp only [List.length_cons] at hq hr
      cases r with
      | zero => omega
      | succ r =>
        cases q with
        | zero => exact .inl ⟨r, by omega, by rw [h2]; congr 1; omega, by simpa using h3⟩
        | succ q => exact .inr ⟨q, r, by omega, by omega, by omega, by rw [h2]; congr 1 <;> omega, by simpa using h3⟩
theorem ji (e : List S63) (x y : List Int) : ba e x y = ba e y x := by
  unfold ba gG
  rw [Bool.and_comm ((bL x y).length == 1)]
  congr 1
  unfold fN
  refine fh e _ _ (fun s _ => ?_)
  rw [Bool.or_comm]
theorem bp {l : List Int} {a : Int} (hp : l.Pairwise (· < ·)) (h : ∀ x, x ∈ l ↔ x = a) : l = [a] := fo hp (by simp) (fun x => by rw [h, List.mem_singleton])
section
variable (n : Nat) (hn : n ≤ 8) (e : List S63) (hg : bA (n : Int) e = true)
include hn hg
omit hn hg in
theorem jA (s : List Int) (hu : ∀ p ∈ e, p.f0 < p.f1) : cK e s = true ↔ FPure.Ind (aX e) (· ∈ s) := by
  unfold cK FPure.Ind
  rw [Bool.not_eq_true', List.any_eq_false]
  constructor
  · intro h x y hx hy ha
    rw [eG, fc] at ha
    obtain ⟨p, hp, ⟨h1, h2⟩ | ⟨h1, h2⟩⟩ := ha
    · exact h p hp (by rw [h1, h2]; simp [hx, hy])
    · exact h p hp (by rw [h1, h2]; simp [hx, hy])
  · intro h p hp hh
    simp only [Bool.and_eq_true, decide_eq_true_eq] at hh
    exact h _ _ hh.1 hh.2 ((eG e _ _).2 ((fc e _ _).2 ⟨p, hp, .inl ⟨rfl, rfl⟩⟩))
omit hn hg in
theorem jh {x y : List Int} (hx : x.Pairwise (· < ·)) (hy : y.Pairwise (· < ·)) (hi : FPure.Ind (aX e) (· ∈ y)) : ba e x y = true ↔ FPure.Slide (aX e) (· ∈ x) (· ∈ y) := by
  have ho : ∀ a b : List Int, ∀ z, z ∈ bL a b ↔ z ∈ a ∧ z ∉ b := fun a b z => by unfold bL; rw [List.mem_filter]; simp
  unfold ba gG
  rw [Bool.and_eq_true, Bool.and_eq_true, beq_iff_eq, beq_iff_eq]
  constructor
  · rintro ⟨⟨h1, h2⟩, h3⟩
    obtain ⟨a, ha⟩ := List.length_eq_one_iff.1 h1
    obtain ⟨b, hb⟩ := List.length_eq_one_iff.1 h2
    rw [ha, hb] at h3
    have ha2 : ∀ z, z ∈ x ∧ z ∉ y ↔ z = a := fun z => by rw [← ho, ha, List.mem_singleton]
    have hb2 : ∀ z, z ∈ y ∧ z ∉ x ↔ z = b := fun z => by rw [← ho, hb, List.mem_singleton]
    have hax := (ha2 a).2 rfl
    have hbx := (hb2 b).2 rfl
    refine ⟨a, b, hax.1, hbx.2, ?_, fun z => ?_, hi⟩
    · rw [eG]
      unfold fN at h3
      unfold aW
      rw [← h3]
      refine fh e _ _ (fun s _ => ?_)
      simp only [List.headD_cons]
      rw [Bool.eq_iff_iff]; simp
    · constructor
      · intro hz
        by_cases c : z ∈ x
        · exact .inl ⟨c, fun e => hax.2 (e ▸ hz)⟩
        · exact .inr ((hb2 z).1 ⟨hz, c⟩)
      · rintro (⟨h4, h5⟩ | h4)
        · exact Classical.byContradiction fun hn => h5 ((ha2 z).1 ⟨h4, hn⟩)
        · rw [h4]; exact hbx.1
  · rintro ⟨a, b, h1, h2, h3, h4, _⟩
    have hab : a ≠ b := fun e => h2 (by rw [← e]; exact h1)
    have ea : bL x y = [a] := bp (hx.filter _) (fun z => by
      rw [ho]
      constructor
      · rintro ⟨h5, h6⟩
        exact Classical.byContradiction fun hn => h6 ((h4 z).2 (.inl ⟨h5, hn⟩))
      · rintro rfl
        exact ⟨h1, fun h => by
          rcases (h4 z).1 h with h | h
          · exact h.2 rfl
          · exact hab h⟩)
    have eb : bL y x = [b] := bp (hy.filter _) (fun z => by
      rw [ho]
      constructor
      · rintro ⟨h5, h6⟩
        rcases (h4 z).1 h5 with h | h
        · exact absurd h.1 h6
        · exact h
      · rintro rfl
        exact ⟨(h4 z).2 (.inr rfl), h2⟩)
    rw [ea, eb]
    refine ⟨⟨rfl, rfl⟩, ?_⟩
    rw [eG] at h3
    unfold aW at h3
    unfold fN
    rw [← h3]
    refine fh e _ _ (fun s _ => ?_)
    simp only [List.headD_cons]
    rw [Bool.eq_iff_iff]; simp
omit hg in
theorem ov (L : List (List Int)) (i j : Nat) (hi : i < L.length) (hj : j < L.length) (hij : i ≠ j) : (j : Int) ∈ al (cB L (aT (ba e) 0 L)) (i : Int) ↔ ba e L[i] L[j] = true := by
  have _hu := hn
  have e1 : al (cB L (aT (ba e) 0 L)) (i : Int) = bY (aT (ba e) 0 L) (i : Int) := gv (n := L.length) _ (by omega) (by omega)
  rw [e1, jp]
  constructor
  · rintro ⟨p, hp, h⟩
    obtain ⟨q, r, hq, hr, h1, h2, h3⟩ := (g3 _ L 0 p).1 hp
    rw [h2] at h
    simp only [Nat.zero_add] at h
    rcases h with ⟨h4, h5⟩ | ⟨_, h4, h5⟩
    · have e4 : q = i := by omega
      have e5 : r = j := by omega
      subst e4; subst e5; exact h3
    · have e4 : r = i := by omega
      have e5 : q = j := by omega
      subst e4; subst e5; rw [ji]; exact h3
  · intro h
    by_cases c : i < j
    · exact ⟨⟨(i : Int), (j : Int)⟩, (g3 _ L 0 _).2 ⟨i, j, hi, hj, c, by simp, h⟩, .inl ⟨rfl, rfl⟩⟩
    · exact ⟨⟨(j : Int), (i : Int)⟩, (g3 _ L 0 _).2 ⟨j, i, hj, hi, by omega, by simp, by rw [ji]; exact h⟩, .inr ⟨by show (j : Int) ≠ (i : Int); omega, rfl, rfl⟩⟩
/-- What is told by the distances fL all states is what slides reach. -/
theorem oT (l1 : List Int) (hset : SetN n l1) (hfree : cK e l1 = true) (L : List (List Int)) (hL : L = bo n e (l1.length : Int) (l1.length : Int)) (q : Nat) (hq : q < L.length) (hql : L[q] = l1) (D : List Int)
    (dc : ff (cB L (aT (ba e) 0 L)) (fun k => 0 ≤ rd D k)) (ds : 0 ≤ rd D (q : Int)) (dm : ∀ P, ff (cB L (aT (ba e) 0 L)) P → P (q : Int) → ∀ k, 0 ≤ k → k < (L.length : Int) → 0 ≤ rd D k → P k) :
    (∀ k : Nat, ∀ hk : k < L.length, 0 ≤ rd D (k : Int) → FPure.Reach (aX e) (· ∈ l1) (· ∈ L[k])) ∧ (∀ T, FPure.Reach (aX e) (· ∈ l1) T → ∃ k : Nat, ∃ hk : k < L.length, 0 ≤ rd D (k : Int) ∧ ∀ z, T z ↔ z ∈ L[k]) := by
  have hu : ∀ p ∈ e, p.f0 < p.f1 := fun p hp => ((dN hg).2.2 p hp).2.1
  have hrl := jq L (aT (ba e) 0 L)
  have hmem : ∀ k : Nat, ∀ hk : k < L.length, SetN n L[k] ∧ (L[k].length : Int) = (l1.length : Int) ∧ FPure.Ind (aX e) (· ∈ L[k]) := fun k hk => by
    have h1 : L[k] ∈ bo n e (l1.length : Int) (l1.length : Int) := by rw [← hL]; exact List.getElem_mem hk
    have h2 := (iR hn e _ _ _).1 h1
    exact ⟨h2.1, by omega, (jA e _ hu).1 h2.2.2⟩
  have irr : ∀ k : Nat, ∀ hk : k < L.length, ¬ ba e L[k] L[k] = true := fun k hk h => by
    obtain ⟨a, b, h1, h2, h3, h4, _⟩ := (jh e (hmem k hk).1.1 (hmem k hk).1.1 (hmem k hk).2.2).1 h
    exact h2 ((h4 b).2 (.inr rfl))
  have rowin : ∀ (i : Nat) (hi : i < L.length) (j : Int), j ∈ al (cB L (aT (ba e) 0 L)) (i : Int) → ∃ jn : Nat, ∃ hj : jn < L.length, j = (jn : Int) ∧ ba e L[i] L[jn] = true := by
    intro i hi j hj
    have e1 : al (cB L (aT (ba e) 0 L)) (i : Int) = bY (aT (ba e) 0 L) (i : Int) := gv (n := L.length) _ (by omega) (by omega)
    have hj2 := hj
    rw [e1, jp] at hj2
    obtain ⟨p, hp, h⟩ := hj2
    obtain ⟨a, b, ha, hb, h1, h2, h3⟩ := (g3 _ L 0 p).1 hp
    rw [h2] at h
    simp only [Nat.zero_add] at h
    rcases h with ⟨h4, h5⟩ | ⟨_, h4, h5⟩
    · have e4 : a = i := by omega
      subst e4
      exact ⟨b, hb, h5.symm, h3⟩
    · have e4 : b = i := by omega
      subst e4
      exact ⟨a, ha, h5.symm, by rw [ji]; exact h3⟩
  constructor
  · intro k hk h
    have := dm (fun k => ∃ kn : Nat, ∃ hk : kn < L.length, k = (kn : Int) ∧ FPure.Reach (aX e) (· ∈ l1) (· ∈ L[kn])) (fun i i0 i1 hi j hj => by
      obtain ⟨m, hm, rfl, hr⟩ := hi
      obtain ⟨jn, hjn, rfl, hs⟩ := rowin m hm j hj
      exact ⟨jn, hjn, rfl, .step hr ((jh e (hmem m hm).1.1 (hmem jn hjn).1.1 (hmem jn hjn).2.2).1 hs)⟩) ⟨q, hq, rfl, by rw [hql]; exact .refl⟩ (k : Int) (by omega) (by omega) h
    obtain ⟨kn, hkn, ek, hr⟩ := this
    have : kn = k := by omega
    subst this
    exact hr
  · intro T hT
    induction hT with
    | refl => exact ⟨q, hq, ds, fun z => by rw [hql]⟩
    | @step T U _ hs ih =>
      obtain ⟨k, hk, hd, hz⟩ := ih
      have eT : T = (· ∈ L[k]) := funext fun z => propext (hz z)
      subst eT
      obtain ⟨a, b, h1, h2, h3, h4, h5⟩ := hs
      have hm := hmem k hk
      have hbr := (fi n e hg h3).2.1
      classical
      have hu2 : ∀ z, z ∈ (bI n).filter (fun z => decide (U z)) ↔ U z := fun z => by
        rw [List.mem_filter, eF, decide_eq_true_eq]
        refine ⟨And.right, fun h => ⟨?_, h⟩⟩
        rcases (h4 z).1 h with h | h
        · exact hm.1.2 z h.1
        · rw [h]; exact hbr
      have hup : ((bI n).filter (fun z => decide (U z))).Pairwise (· < ·) := (iZ n).filter _
      generalize (bI n).filter (fun z => decide (U z)) = u at hu2 hup
      have eU : U = (· ∈ u) := funext fun z => propext (hu2 z).symm
      subst eU
      have hlen : u.length = L[k].length := by
        have hnd := im hm.1.1
        have hz2 : ∀ z, z ∈ b :: L[k].erase a ↔ z ∈ u := fun z => by
          have h4z : z ∈ u ↔ (z ∈ L[k] ∧ z ≠ a) ∨ z = b := h4 z
          rw [List.mem_cons, hnd.mem_erase_iff, h4z]
          constructor
          · rintro (h | h)
            · exact .inr h
            · exact .inl ⟨h.2, h.1⟩
          · rintro (h | h)
            · exact .inr ⟨h.2, h.1⟩
            · exact .inl h
        have hnd2 : (b :: L[k].erase a).Nodup := List.nodup_cons.2 ⟨fun h => h2 (List.mem_of_mem_erase h), hnd.erase a⟩
        have q1 := FPure.subset_len (im hup) (fun v hv => (hz2 v).2 hv)
        have q2 := FPure.subset_len hnd2 (fun v hv => (hz2 v).1 hv)
        have q3 := List.length_erase_of_mem h1
        have q4 := List.length_pos_of_mem h1
        simp only [List.length_cons] at q1 q2
        omega
      have huL : u ∈ L := by
        rw [hL]
        refine (iR hn e _ _ _).2 ⟨⟨hup, fun z hz => ?_⟩, by omega, (jA e u hu).2 h5⟩
        rcases (h4 z).1 hz with h | h
        · exact hm.1.2 z h.1
        · rw [h]; exact hbr
      obtain ⟨j, hj, hju⟩ := List.mem_iff_getElem.1 huL
      have hsl : ba e L[k] L[j] = true := by
        refine (jh e hm.1.1 (hmem j hj).1.1 (hmem j hj).2.2).2 ?_
        rw [hju]
        exact ⟨a, b, h1, h2, h3, h4, h5⟩
      have hkj : k ≠ j := by
        rintro rfl
        exact irr k hk hsl
      have := dc (k : Int) (by omega) (by omega) hd (j : Int) ((ov n hn e L k j hk hj hkj).2 hsl)
      exact ⟨j, hj, this, fun z => by rw [hju]⟩
end
section
variable (ls : List (List Int)) (e : List S63) (D : List Int) (hl : ls.length ≤ 1048576) (hD : D.length = ls.length) (h8 : ∀ s ∈ ls, SetN 8 s)
include hl hD h8
theorem pE (d : Nat) : ∀ (m : Nat) (c : List Int) (b : Int), ls.length - m = d → m ≤ ls.length → SetN 8 c → (0 ≤ b ∧ b < 256) → bN b = c →
    ∃ R : List Int, SetN 8 R ∧ (∀ x, x ∈ R ↔ x ∈ c ∧ ∀ j, m ≤ j → ∀ hj : j < ls.length, 0 ≤ rd D (j : Int) → x ∈ ls[j]) ∧ Ev (fun k => da k b D (D.length : Int) (m : Int) ls e) R := by
  induction d with
  | zero =>
    intro m c b h0 h1 hc hb hbc
    refine ⟨c, hc, fun x => ⟨fun h => ⟨h, fun j hj hj2 => by omega⟩, And.left⟩, ?_⟩
    refine Ev.step (fun k => by rw [da]) (Ev.neg (by omega) ?_)
    refine Ev.bind (iX b) ?_
    rw [show aI (aG b) 8 0 = c from hbc]
    exact Ev.now _
  | succ d ih =>
    intro m c b h0 h1 hc hb hbc
    have hm : m < ls.length := by omega
    have hmD : m < D.length := by omega
    have hs := h8 ls[m] (List.getElem_mem _)
    have hsl := gA hs
    have hcl := gA hc
    have hrd := aK D m hmD
    by_cases cd : D[m] ≥ 0
    · have ha := tj hc hs hb hbc
      obtain ⟨R, r0, r1, r2⟩ := ih (m + 1) (gR c ls[m]) (Go.bits .and .u64 b (aJ 0 ls[m])) (by omega) (by omega) (mw hc _) ha.2 ha.1
      refine ⟨R, r0, fun x => ?_, ?_⟩
      · rw [r1]
        unfold gR
        rw [List.mem_filter, decide_eq_true_eq]
        constructor
        · rintro ⟨⟨h2, h3⟩, h4⟩
          refine ⟨h2, fun j hj hj2 hd => ?_⟩
          by_cases ej : j = m
          · subst ej; exact h3
          · exact h4 j (by omega) hj2 hd
        · rintro ⟨h2, h3⟩
          exact ⟨⟨h2, h3 m (av _) hm (by rw [hrd]; exact cd)⟩, fun j hj hj2 hd => h3 j (by omega) hj2 hd⟩
      · refine Ev.step (fun k => by rw [da]) (Ev.pos (by omega) (Ev.pos (by omega) (Ev.pos (by omega) ?_)))
        rw [aK D m hmD, gx ls m hm, aH hm (by omega)]
        refine Ev.pos cd (Ev.pos (by omega) ?_)
        exact Ev.bind (gY ls[m] (by omega) fun z hz => hs.2 z hz) r2
    · obtain ⟨R, r0, r1, r2⟩ := ih (m + 1) c b (by omega) (by omega) hc hb hbc
      refine ⟨R, r0, fun x => ?_, ?_⟩
      · rw [r1]
        constructor
        · rintro ⟨h2, h4⟩
          refine ⟨h2, fun j hj hj2 hd => ?_⟩
          by_cases ej : j = m
          · subst ej; rw [hrd] at hd; exact absurd hd cd
          · exact h4 j (by omega) hj2 hd
        · rintro ⟨h2, h3⟩
          exact ⟨h2, fun j hj hj2 hd => h3 j (by omega) hj2 hd⟩
      · refine Ev.step (fun k => by rw [da]) (Ev.pos (by omega) (Ev.pos (by omega) (Ev.pos (by omega) ?_)))
        rw [aK D m hmD, aH hm (by omega)]
        exact Ev.neg cd r2
end
theorem o5 (l : List (List Int)) (e : List S63) (hl : l.length ≤ 1048576) (hx : LexS l) (s : List Int) (hs : s ∈ l) : ∃ q : Nat, ∃ hq : q < l.length, l[q] = s ∧ eW l e s = some ((q : Int), true) := by
  obtain ⟨q, hq, h2⟩ := List.mem_iff_getElem.1 hs
  subst h2
  refine ⟨q, hq, rfl, ?_⟩
  have hp : gy l l[q] = q := om l hx q hq
  unfold eW
  rw [if_pos (by omega), hp, af hq, Bool.true_and, List.getD_eq_getElem?_getD, List.getElem?_eq_getElem hq, Option.getD_some, (sN _ _).2 rfl]
  rfl
section
variable (n : Nat) (hn : n ≤ 8) (e : List S63) (he : e.length ≤ 1048576) (hg : bA (n : Int) e = true) (l1 : List Int) (hl1 : l1.length ≤ 1048576) (hset : SetN n l1) (hfree : cK e l1 = true)
include hn he hg hl1 hset hfree
open Classical in
theorem pF : Ev (fun k => ed k (n : Int) e l1) (l1.filter fun x => decide (fj e l1 x)) := by
  have hx8 : SetN 8 l1 := hset.wide hn
  have hlen := hset.len
  have ht := qJ (n : Int) e (l1.length : Int) he
  unfold i9 at ht
  rw [if_pos (by rw [hg, Bool.true_and, af (show (0 : Int) ≤ (l1.length : Int) by omega), af (show (l1.length : Int) ≤ 8 by omega)]; rfl), Int.toNat_natCast] at ht
  have hm := m5 hn e (l1.length : Int) (l1.length : Int) 0
  have hgo := tm (dF e 0) (bo n e (l1.length : Int) (l1.length : Int))
  have hmem : l1 ∈ bo n e (l1.length : Int) (l1.length : Int) := (iR hn _ _ _ _).2 ⟨hset, ⟨Int.le_refl _, Int.le_refl _⟩, hfree⟩
  have h8 : ∀ s ∈ bo n e (l1.length : Int) (l1.length : Int), SetN 8 s := fun s hs => iS hn hs
  have hlex := jN hn e (l1.length : Int) (l1.length : Int)
  rw [jd] at ht hm hgo
  obtain ⟨L, hL⟩ : ∃ L, L = bo n e (l1.length : Int) (l1.length : Int) := ⟨_, rfl⟩
  rw [← hL] at ht hm hgo hmem h8 hlex
  have hml := hm.1
  obtain ⟨q, hq, hql, i2⟩ := o5 L (aT (ba e) 0 L) hml hlex l1 hmem
  have hzl := jq L (aT (ba e) 0 L)
  obtain ⟨D, e1, e2, e3, _, e5, e6, e7, _⟩ := nu (oD L (aT (ba e) 0 L) hm hgo) (by omega) (oC L (aT (ba e) 0 L) hm hgo) (q : Int) (by omega) (by omega)
  rw [hzl] at e3 e7
  obtain ⟨g1, g2⟩ := oT n hn e hg l1 hset hfree L hL q hq hql D e6 e5 e7
  have hcode := hx8.code (by decide)
  obtain ⟨R, r0, r1, r2⟩ := pE L (aT (ba e) 0 L) D hml e3 h8 _ 0 l1 (aJ 0 l1) rfl (Nat.zero_le _) hx8 (by have := hcode.1; omega) hcode.2
  have eR : R = l1.filter fun x => decide (fj e l1 x) := by
    refine fo r0.1 (hset.1.filter _) (fun x => ?_)
    rw [r1, List.mem_filter, decide_eq_true_eq]
    refine and_congr_right fun hx => ?_
    constructor
    · intro h T hT
      obtain ⟨k, hk, hd, hz⟩ := g2 T hT
      exact (hz x).2 (h k (Nat.zero_le _) hk hd)
    · intro h j _ hj hd
      exact h _ (g1 j hj hd)
  rw [← eR]
  unfold ed
  refine Ev.bind ht ?_
  refine Ev.bindo i2 ?_
  refine Ev.bind (gY l1 hl1 fun z hz => hx8.2 z hz) ?_
  refine Ev.bind (oB L (aT (ba e) 0 L) hm hgo) ?_
  refine Ev.bind e1 ?_
  simpa only [Int.natCast_zero] using r2
end
theorem rj (a : Int) (e : List S63) (l : List Int) (he : e.length ≤ 1048576) (hl : l.length ≤ 1048576) : Ev (fun k => f9 k a e l) (bA a e && dy a e l) := by
  unfold f9
  refine Ev.bind (pY a e he) ?_
  by_cases hg : bA a e = true
  · rw [hg, Bool.true_and]
    exact Ev.pos rfl (Ev.bind (rr a e l he hl hg) (Ev.now _))
  · rw [Bool.eq_false_iff.mpr hg, Bool.false_and]
    exact Ev.neg (by decide) (Ev.now _)
end Go.Proofs.YtjgcehldepfaaaaGreat.P
namespace Go.Proofs.YtjgcehldepfaaaaGreat.P
open Go.RowKit YtjgcehldepfaaaaGreatW.PrintWords Go.Proofs.YtjgcehldepfaaaaGreatW.PrintLast Go.Proofs.YtjgcehldepfaaaaGreatW.PrintMore
set_option linter.unusedVariables false
set_option linter.unusedSimpArgs false
theorem tT (a0_0 : Int) (l0_1 : List S63) (l1 : List Int) (w0_0 : (Lit.int .i64 a0_0).wf = true) (w0_1 : ke l0_1) (w1 : kg l1) (hn0 : l0_1.length ≤ 1048576) (hl1 : l1.length ≤ 1048576) : ∃ (q0 : List Int) (q1 : Bool), Ev (fun k => fz k a0_0 l0_1 l1) (q0, q1) ∧ Ev (fun k => fW k a0_0 l0_1 l1) (q0, q1) ∧ q0.length ≤ 1048576 := by
  classical
  have hi := m3 a0_0 l0_1 l1 l1 hn0 hl1 hl1
  have hs := rj a0_0 l0_1 l1 hn0 hl1
  rw [show hF a0_0 l0_1 l1 l1 = (bA a0_0 l0_1 && dy a0_0 l0_1 l1) from by unfold hF; rw [Bool.and_self]] at hi
  by_cases c : (bA a0_0 l0_1 && dy a0_0 l0_1 l1) = true
  · have c' := c
    rw [Bool.and_eq_true] at c'
    obtain ⟨hg, hx⟩ := c'
    have h1 := dN hg
    obtain ⟨n, rfl⟩ := Int.eq_ofNat_of_zero_le h1.1
    have hn : n ≤ 8 := by omega
    have hset := oc hn hx
    have hsf := nO n hn l0_1 hn0
    have hif := qw n hn l0_1 hn0 hg
    by_cases cf : l0_1.length + bT n l0_1 = n
    · rw [af cf] at hsf hif
      have hT := m4 n l0_1 cf
      have hu : ∀ p ∈ l0_1, p.f0 < p.f1 := fun p hp => (h1.2.2 p hp).2.1
      have hh := qZ n hn l0_1 hn0 hg hT l1 hset.1 ((jA l0_1 l1 hu).1 hset.2)
      have hk := pF n hn l0_1 hn0 hg l1 hl1 hset.1 hset.2
      have hle := List.length_filter_le (fun x => decide (fj l0_1 l1 x)) l1
      generalize (l1.filter fun x => decide (fj l0_1 l1 x)) = R at hh hk hle
      refine ⟨R, true, ?_, ?_, by omega⟩
      · unfold fz
        exact Ev.bind hs (Ev.pos c (Ev.bind hsf (Ev.pos rfl (Ev.bind hh (Ev.now _)))))
      · unfold fW
        exact Ev.bind hi (Ev.pos c (Ev.bind hif (Ev.pos rfl (Ev.bind hk (Ev.now _)))))
    · rw [au cf] at hsf hif
      refine ⟨[], false, ?_, ?_, Nat.zero_le _⟩
      · unfold fz
        exact Ev.bind hs (Ev.pos c (Ev.bind hsf (Ev.neg (by decide) (Ev.now _))))
      · unfold fW
        exact Ev.bind hi (Ev.pos c (Ev.bind hif (Ev.neg (by decide) (Ev.now _))))
  · refine ⟨[], false, ?_, ?_, Nat.zero_le _⟩
    · unfold fz
      exact Ev.bind hs (Ev.neg c (Ev.now _))
    · unfold fW
      exact Ev.bind hi (Ev.neg c (Ev.now _))
end Go.Proofs.YtjgcehldepfaaaaGreat.P
