/- ForestMeets: both sides tell alike whether the meeting rule holds. -/
import Derived.Test.YtjgcehldepfaaaaGreatForestMeetsG28
namespace Go.Proofs.YtjgcehldepfaaaaGreat.P
open Go.RowKit YtjgcehldepfaaaaGreatW.PrintWords Go.Proofs.YtjgcehldepfaaaaGreatW.PrintLast Go.Proofs.YtjgcehldepfaaaaGreatW.PrintMore
set_option linter.unusedVariables false
set_option linter.unusedSimpArgs false
theorem kD (a b : List Int) (ha : a.length ≤ 1048576) (hb : b.length ≤ 1048576) : Ev (fun k => fA k a b) (bA a b) := by
 unfold fA
 refine Ev.bind (my a b ha hb) ?_
 have h1 := qD a b
 refine Ev.bind (my a (bm a b) ha (by omega)) ?_
 rw [qA]
 exact Ev.now _
theorem qz {b c : Int} (hb : 0 ≤ b ∧ b < 256) (hc : 0 ≤ c ∧ c < 256) : (0 ≤ Go.bits .or .u64 b c ∧ Go.bits .or .u64 b c < 256) ∧ ∀ y, 0 ≤ y → y < 8 → aA (Go.bits .or .u64 b c) y = (aA b y || aA c y) := by
 obtain ⟨n, rfl⟩ := Int.eq_ofNat_of_zero_le hb.1
 obtain ⟨m, rfl⟩ := Int.eq_ofNat_of_zero_le hc.1
 have hn : n < 256 := by omega
 have hm : m < 256 := by omega
 have h1 : n ||| m < 2 ^ 8 := Nat.or_lt_two_pow hn hm
 rw [(bits_nat .u64 8 (by decide) iP n m hn hm).2]
 refine ⟨by omega, fun y h0 h8 => ?_⟩
 obtain ⟨z, rfl⟩ := Int.eq_ofNat_of_zero_le h0
 rw [eL _ z (by omega) (by omega), eL n z hn (by omega), eL m z hm (by omega), Nat.testBit_or]
section
variable (n : Nat) (hn : n ≤ 8) (e : List S63) (he : e.length ≤ 1048576) (hg : bH (n : Int) e = true)
include hn he hg
theorem mK : ∀ (H : List Int) (b : Int), (0 ≤ b ∧ b < 256) → ∃ out, Ev (fun k => fi k (n : Int) e b H) out ∧ (0 ≤ out ∧ out < 256) ∧ ∀ y, 0 ≤ y → y < 8 → (aA out y = true ↔ aA b y = true ∨ ∃ h ∈ H, y < (n : Int) ∧ aW e h y = true)
 | [], b, hb => ⟨b, Ev.now _, hb, fun y _ _ => by simp⟩
 | h :: t, b, hb => by
  have hu : ∀ s ∈ e, s.f0 < s.f1 := fun s hs => ((dF hg).2.2 s hs).2.1
  have hnb := mA (n : Int) e h he (by omega) hu
  rw [Int.toNat_natCast] at hnb
  have hl := fJ e h n 0
  have hm : ∀ x ∈ bc e h n 0, 0 ≤ x ∧ x < 8 := fun x hx => by have := (fI e h n 0 x).1 hx; omega
  have hbg := jF (bc e h n 0) 0 (by omega) hm
  have ho := qz hb hbg.1
  obtain ⟨out, h1, h2, h3⟩ := mK t (Go.bits .or .u64 b (aE 0 (bc e h n 0))) ho.1
  refine ⟨out, ?_, h2, fun y h0 h8 => ?_⟩
  · unfold fi
    exact Ev.bind hnb (Ev.bind (dh _ (by omega) hm) h1)
  · rw [h3 y h0 h8, ho.2 y h0 h8, hbg.2 y h0 h8, iC h0 h8, Bool.false_or, Bool.or_eq_true, decide_eq_true_eq, fI]
    constructor
    · rintro ((h4 | h4) | ⟨x, hx, h4⟩)
      · exact .inl h4
      · exact .inr ⟨h, .head _, by omega, h4.2⟩
      · exact .inr ⟨x, .tail _ hx, h4⟩
    · rintro (h4 | ⟨x, hx, h4, h5⟩)
      · exact .inl (.inl h4)
      · rcases List.mem_cons.1 hx with rfl | hx
        · exact .inl (.inr ⟨by omega, h5⟩)
        · exact .inr ⟨x, hx, h4, h5⟩
def cY (n : Nat) (e : List S63) (H : List Int) (y : Int) : Bool := !decide (y ∈ H) && decide ((bA (bc e y n 0) H).length = 0)
omit hg in
theorem qT (H : List Int) (hH : H.length ≤ 8) (d : Nat) : ∀ (y : Int) (acc : List Int), ((n : Int) - y).toNat = d → 0 ≤ y → acc.length + d ≤ 1000 → Ev (fun k => dj k H acc y (n : Int) e) (acc ++ aI (cY n e H) d y) := by
 induction d with
 | zero =>
  intro y acc h0 h1 h2
  refine Ev.step (fun k => by rw [dj]) (Ev.neg (by omega) ?_)
  simp only [aI, List.append_nil]
  exact Ev.now _
 | succ d ih =>
  intro y acc h0 h1 h2
  have hw := Aside0.mk (show wrap64 (y + 1) = y + 1 from cL (by omega) (by omega))
  have hnl := fJ e y n 0
  refine Ev.step (fun k => by rw [dj]) (Ev.pos (by omega) ?_)
  refine Ev.bind (fl H y (by omega)) ?_
  rw [aI]
  by_cases c : y ∈ H
  · have hb : ¬ cY n e H y = true := by unfold cY; rw [af c]; simp
    rw [af c, if_neg hb, List.nil_append]
    refine Ev.pos rfl ?_
    rw [hw.out]
    exact ih (y + 1) acc (by omega) (by omega) (by omega)
  · rw [ao c]
    refine Ev.neg (by decide) ?_
    have hnb := ki (n : Int) e y he (by omega)
    rw [Int.toNat_natCast] at hnb
    refine Ev.bind hnb (Ev.bind (kD _ H (by omega) (by omega)) ?_)
    by_cases c2 : (bA (bc e y n 0) H).length = 0
    · have hb : cY n e H y = true := by unfold cY; rw [ao c, af c2]; rfl
      rw [if_pos hb, ← List.append_assoc]
      refine Ev.pos (by omega) (Ev.pos (by omega) ?_)
      rw [hw.out]
      exact ih (y + 1) _ (by omega) (by omega) (by rw [List.length_append, List.length_singleton]; omega)
    · have hb : ¬ cY n e H y = true := by unfold cY; rw [ao c, ao c2]; simp
      rw [if_neg hb, List.nil_append]
      refine Ev.neg (by omega) ?_
      rw [hw.out]
      exact ih (y + 1) acc (by omega) (by omega) (by omega)
omit hg in
theorem qU (H : List Int) (hH : H.length ≤ 8) : Ev (fun k => g9 k (n : Int) e H) (aI (cY n e H) n 0) := by
 have := qT n hn e he H hH n 0 [] (by omega) (by omega) (by simp; omega)
 rw [List.nil_append] at this
 unfold g9
 exact this
end
theorem cQ (out : Int) : ∀ (z : List (List Int)) (x : Nat), (aN out x z).length = z.length
 | [], _ => rfl
 | r :: t, x => by rw [aN, List.length_cons, cQ out t (x + 1), List.length_cons]
theorem kb (out : Int) : ∀ (z : List (List Int)) (x i : Nat) (hi : i < z.length), (aN out x z)[i]'(by rw [cQ]; exact hi) = fL out ((x + i : Nat) : Int) z[i]
 | r :: t, x, 0, _ => rfl
 | r :: t, x, i + 1, hi => by
  have := kb out t (x + 1) i (by simpa using hi)
  simp only [aN, List.getElem_cons_succ]
  rw [this, show x + 1 + i = x + (i + 1) by omega]
section
variable (z : List (List Int)) (out : Int)
theorem gE {a b : Int} (h0 : 0 ≤ a) (h1 : a < (z.length : Int)) : b ∈ ai (aN out 0 z) a ↔ b ∈ ai z a ∧ aA out a = false ∧ aA out b = false := by
 obtain ⟨m, rfl⟩ := Int.eq_ofNat_of_zero_le h0
 have hm : m < z.length := by omega
 rw [dT _ m (by rw [cQ]; exact hm), kb out z 0 m hm, Nat.zero_add, dT z m hm]
 unfold fL
 rw [List.mem_filter]
 simp
theorem qR (hz : cH z) : cH (aN out 0 z) := by
 intro i h0 h1 j hj
 rw [cQ] at h1 ⊢
 exact hz i h0 h1 j ((gE z out h0 h1).1 hj).1
theorem qP (hs : eQ z) : eQ (aN out 0 z) := by
 intro i j i0 i1 j0 j1 h
 rw [cQ] at i1 j1
 have := (gE z out i0 i1).1 h
 exact (gE z out j0 j1).2 ⟨hs i j i0 i1 j0 j1 this.1, this.2.2, this.2.1⟩
theorem qQ (hr : ∀ i, (ai z i).length ≤ 1048576) (i : Int) : (ai (aN out 0 z) i).length ≤ 1048576 := by
 by_cases h : i.toNat < z.length
 · have e2 : ai (aN out 0 z) i = ai (aN out 0 z) (i.toNat : Int) := by unfold ai; rw [Int.toNat_natCast]
   have e3 : ai z i = ai z (i.toNat : Int) := by unfold ai; rw [Int.toNat_natCast]
   have h2 := hr i
   rw [e3, dT z i.toNat h] at h2
   rw [e2, dT _ i.toNat (by rw [cQ]; exact h), kb out z 0 i.toNat h]
   exact Nat.le_trans (List.length_filter_le _ _) h2
 · have e1 : ai (aN out 0 z) i = [] := by
    unfold ai
    rw [List.getD_eq_getElem?_getD, List.getElem?_eq_none (by rw [cQ]; omega)]
    rfl
   rw [e1]; exact Nat.zero_le _
variable (S : List Int) (hz : cH z) (hS : ∀ y, y ∈ S ↔ (0 ≤ y ∧ y < (z.length : Int)) ∧ aA out y = false)
include hz hS
theorem ka {i j : Int} (hi : i ∈ S) : bn (aN out 0 z) (fun _ => False) i j ↔ bn z (fun y => y ∉ S) i j := by
 constructor
 · intro h
   refine h (fun k => bn z (fun y => y ∉ S) i k) (fun a a0 a1 ha b hb _ => ?_) (eD i)
   rw [cQ] at a1
   have h2 := (gE z out a0 a1).1 hb
   exact fg ha a0 a1 h2.1 (fun h3 => h3 ((hS b).2 ⟨hz a a0 a1 b h2.1, h2.2.2⟩))
 · intro h
   have := h (fun k => k ∈ S ∧ bn (aN out 0 z) (fun _ => False) i k) (fun a a0 a1 ha b hb hbo => by
    have hbS : b ∈ S := Classical.byContradiction hbo
    exact ⟨hbS, fg ha.2 a0 (by rw [cQ]; exact a1) ((gE z out a0 a1).2 ⟨hb, ((hS a).1 ha.1).2, ((hS b).1 hbS).2⟩) (fun h => h)⟩) ⟨hi, eD i⟩
   exact this.2
omit hz in
theorem mH {i j : Int} (h0 : 0 ≤ i) (h1 : i < (z.length : Int)) (hi : i ∉ S) (h : bn (aN out 0 z) (fun _ => False) i j) : j = i := by
 have hb : aA out i = true := by
  cases c : aA out i with
  | true => rfl
  | false => exact absurd ((hS i).2 ⟨⟨h0, h1⟩, c⟩) hi
 exact h (fun k => k = i) (fun a a0 a1 ha b hb2 _ => by
  rw [cQ] at a1
  have := ((gE z out a0 a1).1 hb2).2.1
  have ha2 : a = i := ha
  rw [ha2, hb] at this
  cases this) rfl
theorem mF (i : Nat) (hi : (i : Int) ∈ S) : bO (aN out 0 z) (fun _ => False) i ↔ bO z (fun y => y ∉ S) i := by
 have hir := (hS (i : Int)).1 hi
 unfold bO
 constructor
 · rintro ⟨_, h⟩
   refine ⟨fun h2 => h2 hi, fun i' hi' hi2 hr => ?_⟩
   have hm : (i' : Int) ∈ S := Classical.byContradiction hi2
   exact h i' hi' (fun h => h) ((ka z out S hz hS hm).2 hr)
 · rintro ⟨_, h⟩
   refine ⟨fun h => h, fun i' hi' _ hr => ?_⟩
   by_cases c : (i' : Int) ∈ S
   · exact h i' hi' (fun h2 => h2 c) ((ka z out S hz hS c).1 hr)
   · have := mH z out S hS (i := (i' : Int)) (by omega) (by omega) c hr
     omega
theorem mG (i : Nat) (hi : (i : Int) ∈ S) : bo (aN out 0 z) (fun _ => False) (i : Int) = bo z (fun y => y ∉ S) (i : Int) := by
 refine fy (gU _ _ _) (gU _ _ _) (fun x => ?_)
 rw [ed, ed, cQ, ka z out S hz hS hi]
end
def bZ (out : Int) (p l : List Int) : Nat := (p.filter fun y => !aA out y && decide (y ∈ l)).length
theorem lL {out : Int} (ho : 0 ≤ out ∧ out < 256) {p l : List Int} (hp : SetN 8 p) (hl : SetN 8 l) : d4 (Go.bits .and .u64 (Go.bits .andNot .u64 (aE 0 p) out) (aE 0 l)) = some ((bZ out p l : Nat) : Int) := by
 have h1 := (hp.code (by decide)).1
 have h2 := (hl.code (by decide)).1
 have h3 := mM (b := aE 0 p) (c := out) (by omega) ho
 have h4 := nL (b := cw (aE 0 p) out) (c := aE 0 l) h3.1 (by omega)
 have e : Go.bits .andNot .u64 (aE 0 p) out = cw (aE 0 p) out := rfl
 rw [e, jV h4.1.1 h4.1.2]
 congr 2
 have : aI (aA (Go.bits .and .u64 (cw (aE 0 p) out) (aE 0 l))) 8 0 = p.filter fun y => !aA out y && decide (y ∈ l) := by
  refine jc (fF _ _ _) (hp.1.filter _) fun y => ?_
  rw [cD, List.mem_filter]
  constructor
  · rintro ⟨h5, h6⟩
    rw [h4.2 y (by omega) (by omega), h3.2 y (by omega) (by omega), dw hp y (by omega) (by omega), dw hl y (by omega) (by omega), Bool.and_eq_true, Bool.and_eq_true, decide_eq_true_eq] at h6
    exact ⟨h6.1.1, by rw [h6.1.2, h6.2]; rfl⟩
  · rintro ⟨h5, h6⟩
    have hr := hp.2 y h5
    refine ⟨by omega, ?_⟩
    rw [h4.2 y (by omega) (by omega), h3.2 y (by omega) (by omega), dw hp y (by omega) (by omega), dw hl y (by omega) (by omega), af h5, Bool.true_and]
    exact h6
 rw [this]
 rfl
theorem mJ {out : Int} (ho : 0 ≤ out ∧ out < 256) {l1 l2 : List Int} (h1 : SetN 8 l1) (h2 : SetN 8 l2) : ∀ (L : List (List Int)), (∀ p ∈ L, SetN 8 p) → Ev (fun k => fh k out l1 l2 L) (decide (∀ p ∈ L, bZ out p l1 = bZ out p l2), true)
 | [], _ => by
  rw [af (fun p hp => by cases hp)]
  exact Ev.now _
 | p :: t, hL => by
  have hp := hL p (.head _)
  have a1 := cZ hp
  have a2 := cZ h1
  have a3 := cZ h2
  unfold fh
  refine Ev.bind (dh p (by omega) hp.2) (Ev.bind (dh l1 (by omega) h1.2) (Ev.bindo (lL ho hp h1) (Ev.bind (dh l2 (by omega) h2.2) (Ev.bindo (lL ho hp h2) ?_))))
  by_cases c : bZ out p l1 = bZ out p l2
  · refine Ev.pos (by omega) ?_
    have ih := mJ ho h1 h2 t (fun q hq => hL q (.tail _ hq))
    have e : decide (∀ q ∈ p :: t, bZ out q l1 = bZ out q l2) = decide (∀ q ∈ t, bZ out q l1 = bZ out q l2) := by
     rw [decide_eq_decide]
     constructor
     · intro h q hq; exact h q (.tail _ hq)
     · intro h q hq
       rcases List.mem_cons.1 hq with rfl | hq
       · exact c
       · exact h q hq
    rw [e]; exact ih
  · refine Ev.neg (by omega) ?_
    rw [ao (fun h => c (h p (.head _)))]
    exact Ev.now _
theorem tC {α : Type} {P : α → Prop} [∀ x, Decidable (P x)] {x : α} {t : List α} (h : P x) : decide (∀ q ∈ x :: t, P q) = decide (∀ q ∈ t, P q) := by
 rw [decide_eq_decide]
 constructor
 · intro h2 q hq; exact h2 q (.tail _ hq)
 · intro h2 q hq
   rcases List.mem_cons.1 hq with rfl | hq
   · exact h
   · exact h2 q hq
theorem oL {l1 l2 : List Int} (h1 : SetN 8 l1) (h2 : SetN 8 l2) (L : List (List Int)) (hl : L.length ≤ 8) (hL : ∀ p ∈ L, SetN 8 p) (d : Nat) : ∀ (m : Nat), L.length - m = d → m ≤ L.length → Ev (fun k => fb k l1 l2 L (m : Int)) (decide (∀ p ∈ L.drop m, (bA p l1).length = (bA p l2).length), true) := by
 have a2 := cZ h1
 have a3 := cZ h2
 induction d with
 | zero =>
  intro m e0 e1
  rw [List.drop_eq_nil_of_le (by omega), af (fun p hp => by cases hp)]
  exact Ev.step (fun k => by rw [fb]) (Ev.neg (by omega) (Ev.now _))
 | succ d ih =>
  intro m e0 e1
  have hm : m < L.length := by omega
  have a1 := cZ (hL L[m] (List.getElem_mem hm))
  refine Ev.step (fun k => by rw [fb]) (Ev.pos (by omega) (Ev.pos (by omega) ?_))
  rw [dT L m hm, List.drop_eq_getElem_cons hm]
  generalize L[m] = x at a1
  refine Ev.bind (kD x l1 (by omega) (by omega)) (Ev.bind (kD x l2 (by omega) (by omega)) ?_)
  by_cases c : (bA x l1).length = (bA x l2).length
  · refine Ev.pos (by omega) ?_
    rw [aJ hm (by omega)]
    rw [tC (P := fun q => (bA q l1).length = (bA q l2).length) c]
    exact ih (m + 1) (by omega) (by omega)
  · refine Ev.neg (by omega) ?_
    rw [ao (fun h => c (h _ (.head _)))]
    exact Ev.now _
theorem nH {n : Nat} (hn : n ≤ 8) {z : List (List Int)} (hz : z.length = n) (o : Int → Prop) (i : Int) : SetN 8 (bo z o i) := ⟨gU _ _ _, fun x hx => by have := ((ed _ _ _ _).1 hx).1; omega⟩
theorem uT (a0_0 : Int) (l0_1 : List S63) (l1 : List Int) (l2 : List Int) (w0_0 : (Lit.int .i64 a0_0).wf = true) (w0_1 : kX l0_1) (w1 : iO l1) (w2 : iO l2) (hn0 : l0_1.length ≤ 1048576) (hl1 : l1.length ≤ 1048576) (hl2 : l2.length ≤ 1048576) : ∃ (q0 : Bool) (q1 : Bool), Ev (fun k => ey k a0_0 l0_1 l1 l2) (q0, q1) ∧ Ev (fun k => eK k a0_0 l0_1 l1 l2) (q0, q1) := by
 classical
 have hi := ol a0_0 l0_1 l1 l2 hn0 hl1 hl2
 have hs := ri a0_0 l0_1 l1 l2 hn0 hl1 hl2
 by_cases c : fZ a0_0 l0_1 l1 l2 = true
 · have c' := c
   unfold fZ at c'
   rw [Bool.and_eq_true, Bool.and_eq_true] at c'
   obtain ⟨hg, hx1, hx2⟩ := c'
   have h1 := dF hg
   obtain ⟨n, rfl⟩ := Int.eq_ofNat_of_zero_le h1.1
   have hn : n ≤ 8 := by omega
   have s1 := lN hn hx1
   have s2 := lN hn hx2
   have hsf := o5 n hn l0_1 hn0
   have hif := rJ n hn l0_1 hn0 hg
   by_cases cf : l0_1.length + b9 n l0_1 = n
   · rw [af cf] at hsf hif
     by_cases cl : l1.length = l2.length
     · have hT := om n l0_1 cf
       have hu : ∀ p ∈ l0_1, p.f0 < p.f1 := fun p hp => (h1.2.2 p hp).2.1
       have hh1 := nl n hn l0_1 hn0 hg hT l1 s1.1 ((jm l0_1 l1 hu).1 s1.2)
       have hh2 := nl n hn l0_1 hn0 hg hT l2 s2.1 ((jm l0_1 l2 hu).1 s2.2)
       have hk1 := mL n hn l0_1 hn0 hg l1 hl1 s1.1 s1.2
       have hk2 := mL n hn l0_1 hn0 hg l2 hl2 s2.1 s2.2
       have t1 : SetN n (l1.filter fun x => decide (eP l0_1 l1 x)) := ⟨s1.1.1.filter _, fun x hx => s1.1.2 x (List.mem_filter.1 hx).1⟩
       have t2 : SetN n (l2.filter fun x => decide (eP l0_1 l2 x)) := ⟨s2.1.1.filter _, fun x hx => s2.1.2 x (List.mem_filter.1 hx).1⟩
       generalize (l1.filter fun x => decide (eP l0_1 l1 x)) = H1 at hh1 hk1 t1
       generalize (l2.filter fun x => decide (eP l0_1 l2 x)) = H2 at hh2 hk2 t2
       have u1 := t1.wide hn
       have u2 := t2.wide hn
       have n1 := cZ u1
       have n2 := cZ u2
       have code1 := u1.code (by decide)
       have code2 := u2.code (by decide)
       have hd1 := pz H1 H2 (by omega)
       by_cases ch : H1 = H2
       · subst ch
         rw [af rfl] at hd1
         have hb8 : 0 ≤ aE 0 H1 ∧ aE 0 H1 < 256 := by have := code1.1; omega
         obtain ⟨out, m1, m2, m3⟩ := mK n hn l0_1 hn0 hg H1 (aE 0 H1) hb8
         have hlen := bY n l0_1
         have hS : ∀ y, y ∈ aI (cY n l0_1 H1) n 0 ↔ (0 ≤ y ∧ y < ((az n l0_1).length : Int)) ∧ aA out y = false := by
           intro y
           rw [cD, hlen]
           constructor
           · rintro ⟨h2, h3⟩
             refine ⟨by omega, ?_⟩
             unfold cY at h3
             rw [Bool.and_eq_true, Bool.not_eq_true', decide_eq_false_iff_not, decide_eq_true_eq] at h3
             refine Bool.eq_false_iff.2 fun h4 => ?_
             rcases (m3 y (by omega) (by omega)).1 h4 with h5 | ⟨h, hh, h5, h6⟩
             · rw [dw u1 y (by omega) (by omega), decide_eq_true_eq] at h5
               exact h3.1 h5
             · have hhr := t1.2 h hh
               have : h ∈ bA (bc l0_1 y n 0) H1 := by
                unfold bA
                rw [List.mem_filter, fI, decide_eq_true_eq]
                exact ⟨⟨by omega, by rw [ky]; exact h6⟩, hh⟩
               have := List.length_pos_of_mem this
               omega
           · rintro ⟨h2, h3⟩
             refine ⟨by omega, ?_⟩
             unfold cY
             rw [Bool.and_eq_true, Bool.not_eq_true', decide_eq_false_iff_not, decide_eq_true_eq]
             have hno : ¬ aA out y = true := by rw [h3]; decide
             constructor
             · intro hy
               exact hno ((m3 y (by omega) (by omega)).2 (.inl (by rw [dw u1 y (by omega) (by omega)]; exact af hy)))
             · refine List.length_eq_zero_iff.2 (List.eq_nil_iff_forall_not_mem.2 fun h hh => ?_)
               unfold bA at hh
               rw [List.mem_filter, fI, decide_eq_true_eq] at hh
               exact hno ((m3 y (by omega) (by omega)).2 (.inr ⟨h, hh.2, by omega, by rw [ky]; exact hh.1.2⟩))
         have hloose := qU n hn l0_1 hn0 H1 n1
         have hSp := fF (cY n l0_1 H1) n 0
         generalize aI (cY n l0_1 H1) n 0 = S at hS hloose hSp
         have hSr : ∀ x ∈ S, 0 ≤ x ∧ x < (n : Int) := fun x hx => by have := ((hS x).1 hx).1; omega
         have hz := (j4 n l0_1).1
         have hpieces := mo n hn l0_1 hn0 S hSp hSr
         have hroads := lU n hn l0_1 hn0 hu
         have hparts := mq (z := aN out 0 (az n l0_1)) (by rw [cQ, hlen]; omega) (qR _ out hz) (qQ _ out (lQ n hn l0_1)) (qP _ out (j2 n l0_1))
         rw [cQ, hlen] at hparts
         have hok : fH (az n l0_1) = true := by
           unfold fH
           rw [Bool.and_eq_true, decide_eq_true_eq, hlen]
           refine ⟨by omega, List.all_eq_true.2 fun r hr => ?_⟩
           unfold az at hr
           obtain ⟨i, hi2, rfl⟩ := List.mem_map.1 hr
           rw [Bool.and_eq_true, decide_eq_true_eq]
           have := fJ l0_1 (i : Int) n 0
           refine ⟨by omega, List.all_eq_true.2 fun y hy => ?_⟩
           have := (fI l0_1 _ n 0 y).1 hy
           exact af (by omega)
         have hiff : (∀ p ∈ (bF (aN out 0 (az n l0_1)) (fun _ => False) n 0).map (fun (i : Nat) => bo (aN out 0 (az n l0_1)) (fun _ => False) (i : Int)), bZ out p l1 = bZ out p l2) ↔
             (∀ p ∈ (bF (az n l0_1) (fun y => y ∉ S) n 0).map (fun (i : Nat) => bo (az n l0_1) (fun y => y ∉ S) (i : Int)), (bA p l1).length = (bA p l2).length) := by
           have inS : ∀ (i : Nat) (hi2 : (i : Int) ∈ S) (l : List Int), bZ out (bo (az n l0_1) (fun y => y ∉ S) (i : Int)) l = (bA (bo (az n l0_1) (fun y => y ∉ S) (i : Int)) l).length := by
             intro i hi2 l
             unfold bZ bA
             congr 1
             refine List.filter_congr fun y hy => ?_
             have hir := hSr _ hi2
             have h3 := ja hz hir.1 (by rw [hlen]; exact hir.2) (fun h => h hi2) ((ed _ _ _ _).1 hy).2
             have hyS : y ∈ S := Classical.byContradiction h3.2
             rw [((hS y).1 hyS).2]
             rfl
           constructor
           · intro h p hp
             obtain ⟨i, hi2, rfl⟩ := List.mem_map.1 hp
             rw [cX, List.mem_filter] at hi2
             have hrep : bO (az n l0_1) (fun y => y ∉ S) i := by simpa using hi2.2
             have hiS : (i : Int) ∈ S := Classical.byContradiction hrep.1
             have := h (bo (aN out 0 (az n l0_1)) (fun _ => False) (i : Int)) (List.mem_map.2 ⟨i, by
               rw [cX, List.mem_filter]
               exact ⟨hi2.1, by simpa using (mF _ out S hz hS i hiS).2 hrep⟩, rfl⟩)
             rw [mG _ out S hz hS i hiS, inS i hiS, inS i hiS] at this
             exact this
           · intro h p hp
             obtain ⟨i, hi2, rfl⟩ := List.mem_map.1 hp
             rw [cX, List.mem_filter] at hi2
             have hrep : bO (aN out 0 (az n l0_1)) (fun _ => False) i := by simpa using hi2.2
             have hin := hi2.1
             rw [List.mem_range'_1] at hin
             by_cases hiS : (i : Int) ∈ S
             · rw [mG _ out S hz hS i hiS, inS i hiS, inS i hiS]
               exact h _ (List.mem_map.2 ⟨i, by
                rw [cX, List.mem_filter]
                exact ⟨hi2.1, by simpa using (mF _ out S hz hS i hiS).1 hrep⟩, rfl⟩)
             · have hout : aA out (i : Int) = true := by
                cases co : aA out (i : Int) with
                | true => rfl
                | false => exact absurd ((hS _).2 ⟨by rw [hlen]; omega, co⟩) hiS
               have zero : ∀ l, bZ out (bo (aN out 0 (az n l0_1)) (fun _ => False) (i : Int)) l = 0 := by
                intro l
                unfold bZ
                refine List.length_eq_zero_iff.2 (List.filter_eq_nil_iff.2 fun y hy => ?_)
                have := mH _ out S hS (i := (i : Int)) (by omega) (by rw [hlen]; omega) hiS ((ed _ _ _ _).1 hy).2
                rw [this, hout]
                simp
               rw [zero, zero]
         have hle : ((bF (az n l0_1) (fun y => y ∉ S) n 0).map (fun (i : Nat) => bo (az n l0_1) (fun y => y ∉ S) (i : Int))).length ≤ 8 := by
           rw [List.length_map, cX]
           have := List.length_filter_le (fun i => decide (bO (az n l0_1) (fun y => y ∉ S) i)) (List.range' 0 n)
           rw [List.length_range'] at this
           omega
         have p1 := s1.1.wide hn
         have p2 := s2.1.wide hn
         have hsm := oL p1 p2 _ hle (fun p hp => by obtain ⟨i, _, rfl⟩ := List.mem_map.1 hp; exact nH hn hlen _ _) _ 0 rfl (Nat.zero_le _)
         rw [List.drop_zero, Int.natCast_zero] at hsm
         have him := mJ m2 p1 p2 ((bF (aN out 0 (az n l0_1)) (fun _ => False) n 0).map (fun (i : Nat) => bo (aN out 0 (az n l0_1)) (fun _ => False) (i : Int))) (fun p hp => by obtain ⟨i, _, rfl⟩ := List.mem_map.1 hp; exact nH (z := aN out 0 (az n l0_1)) hn (by rw [cQ, hlen]) (fun _ => False) (i : Int))
         have hdec : decide (∀ p ∈ (bF (aN out 0 (az n l0_1)) (fun _ => False) n 0).map (fun (i : Nat) => bo (aN out 0 (az n l0_1)) (fun _ => False) (i : Int)), bZ out p l1 = bZ out p l2) = decide (∀ p ∈ (bF (az n l0_1) (fun y => y ∉ S) n 0).map (fun (i : Nat) => bo (az n l0_1) (fun y => y ∉ S) (i : Int)), (bA p l1).length = (bA p l2).length) := by
           rw [decide_eq_decide]; exact hiff
         rw [hdec] at him
         generalize decide (∀ p ∈ (bF (az n l0_1) (fun y => y ∉ S) n 0).map (fun (i : Nat) => bo (az n l0_1) (fun y => y ∉ S) (i : Int)), (bA p l1).length = (bA p l2).length) = R at hsm him
         refine ⟨R, true, ?_, ?_⟩
         · unfold ey
           refine Ev.bind hs (Ev.pos c (Ev.bind hsf (Ev.pos rfl ?_)))
           have cl2 : ((l1.length : Int) != (l2.length : Int)) = false := by rw [cl]; simp
           rw [cl2]
           refine Ev.step (fun k => by rw [dD]) (Ev.neg (by decide) ?_)
           exact Ev.bind hh1 (Ev.bind hh2 (Ev.bind hd1 (Ev.pos rfl (Ev.bind hloose (Ev.bind hpieces hsm)))))
         · unfold eK
           refine Ev.bind hi (Ev.pos c (Ev.bind hif (Ev.pos rfl (Ev.pos cl ?_))))
           refine Ev.bind hk1 (Ev.bind (dh H1 (by omega) u1.2) (Ev.bind hk2 (Ev.bind (dh H1 (by omega) u1.2) (Ev.pos rfl ?_))))
           refine Ev.bind (iL (aE 0 H1)) ?_
           rw [show aI (aA (aE 0 H1)) 8 0 = H1 from code1.2]
           exact Ev.bind m1 (Ev.bind hroads (Ev.pos hok (Ev.bind hparts him)))
       · rw [ao ch] at hd1
         refine ⟨false, true, ?_, ?_⟩
         · unfold ey
           refine Ev.bind hs (Ev.pos c (Ev.bind hsf (Ev.pos rfl ?_)))
           have cl2 : ((l1.length : Int) != (l2.length : Int)) = false := by rw [cl]; simp
           rw [cl2]
           refine Ev.step (fun k => by rw [dD]) (Ev.neg (by decide) ?_)
           exact Ev.bind hh1 (Ev.bind hh2 (Ev.bind hd1 (Ev.neg (by decide) (Ev.now _))))
         · unfold eK
           refine Ev.bind hi (Ev.pos c (Ev.bind hif (Ev.pos rfl (Ev.pos cl ?_))))
           refine Ev.bind hk1 (Ev.bind (dh H1 (by omega) u1.2) (Ev.bind hk2 (Ev.bind (dh H2 (by omega) u2.2) (Ev.neg (fun hb => ch ?_) (Ev.now _)))))
           rw [← code1.2, ← code2.2, hb]
     · refine ⟨false, false, ?_, ?_⟩
       · unfold ey
         refine Ev.bind hs (Ev.pos c (Ev.bind hsf (Ev.pos rfl ?_)))
         have cl2 : ((l1.length : Int) != (l2.length : Int)) = true := by simp; omega
         rw [cl2]
         exact Ev.step (fun k => by rw [dD]) (Ev.pos rfl (Ev.now _))
       · unfold eK
         exact Ev.bind hi (Ev.pos c (Ev.bind hif (Ev.pos rfl (Ev.neg cl (Ev.now _)))))
   · rw [ao cf] at hsf hif
     refine ⟨false, false, ?_, ?_⟩
     · unfold ey
       exact Ev.bind hs (Ev.pos c (Ev.bind hsf (Ev.neg (by decide) (Ev.step (fun k => by rw [dD]) (Ev.pos rfl (Ev.now _))))))
     · unfold eK
       exact Ev.bind hi (Ev.pos c (Ev.bind hif (Ev.neg (by decide) (Ev.now _))))
 · refine ⟨false, false, ?_, ?_⟩
   · unfold ey
     exact Ev.bind hs (Ev.neg c (Ev.step (fun k => by rw [dD]) (Ev.pos rfl (Ev.now _))))
   · unfold eK
     exact Ev.bind hi (Ev.neg c (Ev.now _))
set_option maxHeartbeats 1000000 in
theorem Law_FnExactForestMeets (a0_0 : Int) (A0_1 : Option Addr) (ca0_1 : Nat) (l0_1 : List (S63)) (A1 : Option Addr) (ca1 : Nat) (l1 : List Int) (A2 : Option Addr) (ca2 : Nat) (l2 : List Int) (w : World) (hr0_1 : Kd.C k63 w A0_1 l0_1.length l0_1) (hc0_1 : l0_1.length ≤ ca0_1) (hr1 : Kd.C (Kd.int .i64) w A1 l1.length l1) (hc1 : l1.length ≤ ca1) (hr2 : Kd.C (Kd.int .i64) w A2 l2.length l2) (hc2 : l2.length ≤ ca2) (w0_0 : (Lit.int .i64 a0_0).wf = true) (w0_1 : kX l0_1) (w1 : iO l1) (w2 : iO l2) :
   Calls Tryz.prog 4 #[.agg #[.int .i64 a0_0, .slice A0_1 l0_1.length ca0_1], .slice A1 l1.length ca1, .slice A2 l2.length ca2] w fun e w' => e = .returned (.bool true) ∧ Below w.heap.size w w' := by
 by_cases c0 : 1048576 < (l1.length : Int)
 · exact re a0_0 A0_1 ca0_1 l0_1 A1 ca1 l1 A2 ca2 l2 w hr0_1 hc0_1 hr1 hc1 hr2 hc2 c0
 have hl1 : l1.length ≤ 1048576 := by omega
 by_cases c1 : 1048576 < (l2.length : Int)
 · exact rc a0_0 A0_1 ca0_1 l0_1 A1 ca1 l1 A2 ca2 l2 w hr0_1 hc0_1 hr1 hc1 hr2 hc2 c0 c1
 have hl2 : l2.length ≤ 1048576 := by omega
 obtain ⟨t0, h0, m2⟩ := oy a0_0 l0_1 w0_1.1
 by_cases c2 : t0 < 0
 · exact rb a0_0 A0_1 ca0_1 l0_1 A1 ca1 l1 A2 ca2 l2 t0 w hr0_1 hc0_1 hr1 hc1 hr2 hc2 c0 c1 c2 h0
 have hn0 := m2.resolve_left c2
 obtain ⟨q0, q1, es, ei⟩ := uT a0_0 l0_1 l1 l2 w0_0 w0_1 w1 w2 hn0 hl1 hl2
 obtain ⟨k1, h1⟩ := Ev.rounds (ov a0_0 l0_1 hn0)
 obtain ⟨k2, h2⟩ := Ev.rounds (la l1 hl1)
 obtain ⟨k3, h3⟩ := Ev.rounds (la l2 hl2)
 obtain ⟨k4, h4⟩ := Ev.rounds (es)
 obtain ⟨k5, h5⟩ := Ev.rounds (ei)
 obtain ⟨k6, h6⟩ := Ev.rounds (tv a0_0 l0_1 hn0)
 obtain ⟨k7, h7⟩ := Ev.rounds (nz l1 hl1)
 obtain ⟨k8, h8⟩ := Ev.rounds (nz l2 hl2)
 exact ra a0_0 A0_1 ca0_1 l0_1 A1 ca1 l1 A2 ca2 l2 k1 k2 k3 k4 k5 k6 k7 k8 t0 q0 q1 w hr0_1 hc0_1 hr1 hc1 hr2 hc2 c0 c1 c2 h0 h1 h2 h3 h4 h5 h6 h7 h8 
end Go.Proofs.YtjgcehldepfaaaaGreat.P
