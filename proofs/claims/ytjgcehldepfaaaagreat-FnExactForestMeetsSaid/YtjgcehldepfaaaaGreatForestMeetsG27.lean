/- The parts of a graph on both sides: spec's lists of what can be reached within a set, impl's parts of its roads. -/
import Derived.Test.YtjgcehldepfaaaaGreatForestMeetsG26
namespace Go.Proofs.YtjgcehldepfaaaaGreat.P
open Go.RowKit YtjgcehldepfaaaaGreatW.PrintWords Go.Proofs.YtjgcehldepfaaaaGreatW.PrintLast Go.Proofs.YtjgcehldepfaaaaGreatW.PrintMore
set_option linter.unusedVariables false
set_option linter.unusedSimpArgs false
theorem qi (l : List Int) (hl : l.length ≤ 1048576) (x : Int) (hx : x ∉ l) (d : Nat) : ∀ (m : Nat), l.length - m = d → m ≤ l.length → (∀ y ∈ l.take m, y < x) → ∃ q, q ≤ l.length ∧ (∀ y ∈ l.take q, y < x) ∧ (∀ h : q < l.length, x < l[q]) ∧ Ev (fun k => et k l x (m : Int)) (l.take q ++ [x] ++ l.drop q) := by
 induction d with
 | zero =>
  intro m h0 h1 h2
  refine ⟨m, h1, h2, fun h => by omega, ?_⟩
  refine Ev.step (fun k => by rw [et]) ?_
  refine Ev.neg (by omega) ?_
  refine Ev.bindo rfl ?_
  refine Ev.pos (by omega) ?_
  refine Ev.pos (by omega) ?_
  rw [Int.toNat_natCast]
  have hl1 : (l.take m).length ≤ l.length := by rw [List.length_take]; omega
  have hl2 : (l.drop m).length ≤ l.length := by rw [List.length_drop]; omega
  refine Ev.pos (by simp only [List.length_nil]; omega) ?_
  refine Ev.bindo rfl ?_
  refine Ev.bindo rfl ?_
  refine Ev.pos (by simp only [List.nil_append, List.length_singleton]; omega) ?_
  refine Ev.bindo rfl ?_
  refine Ev.pos (by simp only [List.nil_append, List.length_append, List.length_singleton]; omega) ?_
  exact Ev.now _
 | succ d ih =>
  intro m h0 h1 h2
  have hm : m < l.length := by omega
  have hne : l[m] ≠ x := fun e => hx (e ▸ List.getElem_mem hm)
  by_cases c : l[m] < x
  · obtain ⟨q, q1, q2, q3, q4⟩ := ih (m + 1) (by omega) (by omega) (fun y hy => by
     rw [List.take_add_one, List.getElem?_eq_getElem hm] at hy
     rcases List.mem_append.1 hy with hy | hy
     · exact h2 y hy
     · rw [show y = l[m] by simpa using hy]; exact c)
    rw [← aJ hm (by omega)] at q4
    refine ⟨q, q1, q2, q3, ?_⟩
    refine Ev.step (fun k => by rw [et]) ?_
    refine Ev.pos (by omega) ?_
    refine Ev.pos (by omega) ?_
    rw [aM l m hm]
    refine Ev.pos c ?_
    exact q4
  · refine ⟨m, h1, h2, fun h => by omega, ?_⟩
    refine Ev.step (fun k => by rw [et]) ?_
    refine Ev.pos (by omega) ?_
    refine Ev.pos (by omega) ?_
    rw [aM l m hm]
    refine Ev.neg c ?_
    refine Ev.neg hne ?_
    refine Ev.bindo rfl ?_
    refine Ev.pos (by omega) ?_
    rw [Int.toNat_natCast]
    have hl1 : (l.take m).length ≤ l.length := by rw [List.length_take]; omega
    have hl2 : (l.drop m).length ≤ l.length := by rw [List.length_drop]; omega
    refine Ev.pos (by simp only [List.length_nil]; omega) ?_
    refine Ev.bindo rfl ?_
    refine Ev.bindo rfl ?_
    refine Ev.pos (by simp only [List.nil_append, List.length_singleton]; omega) ?_
    refine Ev.bindo rfl ?_
    refine Ev.pos (by simp only [List.nil_append, List.length_append, List.length_singleton]; omega) ?_
    exact Ev.now _
theorem mi (l : List Int) (hl : l.length ≤ 1048575) (hp : l.Pairwise (· < ·)) (x : Int) (hx : x ∉ l) : ∃ R, Ev (fun k => ia k l x) R ∧ R.Pairwise (· < ·) ∧ ∀ y, y ∈ R ↔ y ∈ l ∨ y = x := by
 obtain ⟨q, q1, q2, q3, q4⟩ := qi l (by omega) x hx (l.length - 0) 0 rfl (Nat.zero_le _) (fun y hy => by simp at hy)
 simp only [Int.natCast_zero] at q4
 refine ⟨l.take q ++ [x] ++ l.drop q, q4, ?_, fun y => ?_⟩
 · have hd : ∀ y ∈ l.drop q, x < y := fun y hy => by
     have hq : q < l.length := by
       rcases Nat.lt_or_ge q l.length with h | h
       · exact h
       · rw [List.drop_eq_nil_of_le h] at hy; cases hy
     have h3 := q3 hq
     have h4 := hp.sublist (List.drop_sublist q l)
     rw [List.drop_eq_getElem_cons hq] at hy h4
     rcases List.mem_cons.1 hy with rfl | hy
     · exact h3
     · have := (List.pairwise_cons.1 h4).1 y hy; omega
   rw [List.append_assoc, List.pairwise_append]
   refine ⟨hp.sublist (List.take_sublist q l), ?_, fun a ha b hb => ?_⟩
   · rw [List.singleton_append, List.pairwise_cons]
     exact ⟨hd, hp.sublist (List.drop_sublist q l)⟩
   · have h1 := q2 a ha
     rw [List.singleton_append] at hb
     rcases List.mem_cons.1 hb with rfl | hb
     · exact h1
     · have := hd b hb; omega
 · have e : y ∈ l ↔ y ∈ l.take q ∨ y ∈ l.drop q := by rw [← List.mem_append, List.take_append_drop]
   rw [List.mem_append, List.mem_append, List.mem_singleton, e]
   constructor
   · rintro ((h | h) | h)
     · exact .inl (.inl h)
     · exact .inr h
     · exact .inl (.inr h)
   · rintro ((h | h) | h)
     · exact .inl (.inl h)
     · exact .inr h
     · exact .inl (.inr h)
def az (n : Nat) (e : List S63) : List (List Int) := (List.range n).map fun (x : Nat) => bc e (x : Int) n 0
theorem bY (n : Nat) (e : List S63) : (az n e).length = n := by simp [az]
theorem ii (n : Nat) (e : List S63) (i : Nat) (hi : i < n) : (az n e)[i]'(by rw [bY]; exact hi) = bc e (i : Int) n 0 := by simp [az]
theorem qI (l : List S63) (x : Int) (d : Nat) : ∀ y, ∀ z ∈ bc l x d y, y ≤ z ∧ z < y + (d : Int) := by
 induction d with
 | zero => intro y z hz; simp [bc] at hz
 | succ d ih =>
  intro y z hz
  rw [bc] at hz
  rcases List.mem_append.1 hz with h | h
  · split at h
    · rw [List.mem_singleton.1 h]; omega
    · simp at h
  · have := ih (y + 1) z h
    omega
theorem j4 (n : Nat) (e : List S63) : cH (az n e) ∧ ∀ i, (ai (az n e) i).length ≤ 1048576 + n := by
 constructor
 · intro i h0 h1 j hj
   rw [bY] at h1 ⊢
   obtain ⟨m, rfl⟩ := Int.eq_ofNat_of_zero_le h0
   rw [dT _ m (by rw [bY]; omega), ii n e m (by omega)] at hj
   have := qI e _ _ _ _ hj
   omega
 · intro i
   by_cases h : i.toNat < n
   · have e1 : ai (az n e) i = bc e (i.toNat : Int) n 0 := by
      have := dT (az n e) i.toNat (by rw [bY]; exact h)
      rw [ii n e i.toNat h] at this
      have e2 : ai (az n e) i = ai (az n e) (i.toNat : Int) := by unfold ai; rw [Int.toNat_natCast]
      rw [e2, this]
     rw [e1]
     have := fJ e (i.toNat : Int) n 0
     omega
   · have e1 : ai (az n e) i = [] := by
      unfold ai
      rw [List.getD_eq_getElem?_getD, List.getElem?_eq_none (by rw [bY]; omega)]
      rfl
     rw [e1]
     exact Nat.zero_le _
section
variable (n : Nat) (hn : n ≤ 8) (e : List S63) (he : e.length ≤ 1048576)
include hn he
theorem lU (hu : ∀ s ∈ e, s.f0 < s.f1) : Ev (fun k => gO k (n : Int) e) (az n e) := by
 have key : ∀ (d i : Nat) (acc : List (List Int)), n - i = d → i ≤ n → acc.length ≤ i → Ev (fun k => d6 k acc (n : Int) (i : Int) (n : Int) e) (acc ++ (az n e).drop i) := by
  intro d
  induction d with
  | zero =>
   intro i acc h0 h1 h2
   rw [List.drop_eq_nil_of_le (by rw [bY]; omega), List.append_nil]
   refine Ev.step (fun k => by rw [d6]) ?_
   exact Ev.neg (by omega) (Ev.now _)
  | succ d ih =>
   intro i acc h0 h1 h2
   have hi : i < n := by omega
   rw [List.drop_eq_getElem_cons (by rw [bY]; exact hi), ii n e i hi]
   refine Ev.step (fun k => by rw [d6]) ?_
   refine Ev.pos (by omega) ?_
   have hnb := mA (n : Int) e (i : Int) he (by omega) hu
   rw [Int.toNat_natCast] at hnb
   refine Ev.bind hnb ?_
   refine Ev.pos (by omega) ?_
   rw [aJ hi (by omega)]
   have := ih (i + 1) (acc ++ [bc e (i : Int) n 0]) (by omega) (by omega) (by rw [List.length_append, List.length_singleton]; omega)
   rw [List.append_assoc] at this
   exact this
 have := key n 0 [] (by omega) (Nat.zero_le _) (Nat.zero_le _)
 rw [List.drop_zero, List.nil_append] at this
 exact this
end
theorem fI (l : List S63) (x : Int) (d : Nat) : ∀ y z, z ∈ bc l x d y ↔ (y ≤ z ∧ z < y + (d : Int)) ∧ aW l x z = true := by
 induction d with
 | zero => intro y z; simp only [bc, List.not_mem_nil, false_iff]; omega
 | succ d ih =>
  intro y z
  rw [bc, List.mem_append, ih (y + 1) z]
  by_cases c : aW l x y = true
  · rw [if_pos c, List.mem_singleton]
    constructor
    · rintro (rfl | h)
      · exact ⟨by omega, c⟩
      · exact ⟨by omega, h.2⟩
    · intro h
      by_cases e : z = y
      · exact .inl e
      · exact .inr ⟨by omega, h.2⟩
  · rw [if_neg c]
    constructor
    · rintro (h | h)
      · simp at h
      · exact ⟨by omega, h.2⟩
    · intro h
      by_cases e : z = y
      · subst e; exact absurd h.2 c
      · exact .inr ⟨by omega, h.2⟩
theorem ky (e : List S63) (x y : Int) : aW e x y = aW e y x := by
 unfold aW
 refine fX e _ _ (fun s _ => ?_)
 rw [Bool.or_comm]
theorem gw (n : Nat) (e : List S63) {a b : Int} (h0 : 0 ≤ a) (h1 : a < (n : Int)) : b ∈ ai (az n e) a ↔ (0 ≤ b ∧ b < (n : Int)) ∧ aW e a b = true := by
 obtain ⟨m, rfl⟩ := Int.eq_ofNat_of_zero_le h0
 rw [dT _ m (by rw [bY]; omega), ii n e m (by omega), fI]
 constructor
 · rintro ⟨h, h2⟩; exact ⟨by omega, h2⟩
 · rintro ⟨h, h2⟩; exact ⟨by omega, h2⟩
theorem j2 (n : Nat) (e : List S63) : eQ (az n e) := by
 intro i j i0 i1 j0 j1 h
 rw [bY] at i1 j1
 rw [gw n e i0 i1] at h
 rw [gw n e j0 j1, ky]
 exact ⟨⟨i0, i1⟩, h.2⟩
theorem lQ (n : Nat) (hn : n ≤ 8) (e : List S63) (i : Int) : (ai (az n e) i).length ≤ 1048576 := by
 by_cases h : i.toNat < n
 · have e1 := dT (az n e) i.toNat (by rw [bY]; exact h)
   rw [ii n e i.toNat h] at e1
   have e2 : ai (az n e) i = ai (az n e) (i.toNat : Int) := by unfold ai; rw [Int.toNat_natCast]
   rw [e2, e1]
   have := fJ e (i.toNat : Int) n 0
   omega
 · have e1 : ai (az n e) i = [] := by
    unfold ai
    rw [List.getD_eq_getElem?_getD, List.getElem?_eq_none (by rw [bY]; omega)]
    rfl
   rw [e1]; exact Nat.zero_le _
section
variable {z : List (List Int)} (hn : z.length ≤ 1048576) (hz : cH z) (hr : ∀ i, (ai z i).length ≤ 1048576) (hs : eQ z)
include hn hz hr hs
theorem mq : Ev (fun k => fN k z (-1)) ((bF z (fun _ => False) z.length 0).map (fun (i : Nat) => bo z (fun _ => False) (i : Int))) := by
 have hrep : ∀ k, aV false (List.replicate z.length false) k = false := fun k => by
  unfold aV; rw [List.getD_eq_getElem?_getD, List.getElem?_replicate]; split <;> rfl
 have h := qm hn hz hr hs (fun _ => False) z.length 0 [] (List.replicate z.length false) (Nat.sub_zero _) (Nat.zero_le _) (ar _) (List.length_replicate ..) (fun k _ _ => by
  rw [hrep]
  constructor
  · intro h; cases h
  · rintro (h | ⟨i', h, _⟩)
    · exact h.elim
    · omega)
 rw [List.nil_append] at h
 unfold fN
 refine Ev.bindo rfl ?_
 refine Ev.pos (by omega) ?_
 refine Ev.pos (by rw [Int.toNat_natCast]; omega) ?_
 refine Ev.bindo rfl ?_
 refine Ev.neg (by decide) ?_
 rw [Int.toNat_natCast]
 refine Ev.step (fun k => by rw [dG]) ?_
 exact h
end
section
variable (n : Nat) (hn : n ≤ 8) (e : List S63) (he : e.length ≤ 1048576) (S : List Int) (hS : S.length ≤ 8)
include he hS
theorem qa (i : Nat) (hi : i < S.length) (r : Int) (d : Nat) : ∀ (m : Nat) (out : List Int), out.length - m = d → m ≤ out.length → out.length ≤ 8 → out.Pairwise (· < ·) →
  ∃ out', out'.Pairwise (· < ·) ∧ (∀ y, y ∈ out' ↔ y ∈ out ∨ (y = S[i] ∧ S[i] ∉ out ∧ ∃ z ∈ out.drop m, aW e z S[i] = true)) ∧ out'.length ≤ out.length + 1 ∧
    ∀ R, Ev (fun k => dL k S out' r ((i + 1 : Nat) : Int) (n : Int) e) R → Ev (fun k => dA k S out r (i : Int) (m : Int) (n : Int) e) R := by
 have hw := aJ hi (by omega)
 have leave : ∀ (out : List Int) (m : Nat) (R : List Int), out.length ≤ 9 → (S[i] ∈ out ∨ out.length ≤ m) → Ev (fun k => dL k S out r ((i + 1 : Nat) : Int) (n : Int) e) R → Ev (fun k => dA k S out r (i : Int) (m : Int) (n : Int) e) R := by
  intro out m R h9 ho hR
  refine Ev.step (fun k => by rw [dA]) ?_
  by_cases c : (m : Int) < (out.length : Int)
  · refine Ev.pos c (Ev.pos (by omega) (Ev.pos (by omega) ?_))
    rw [aM S i hi]
    refine Ev.bind (fl out S[i] (by omega)) ?_
    rw [af (ho.resolve_right (by omega))]
    refine Ev.step (fun k => by rw [dN]) (Ev.neg (by decide) ?_)
    rw [hw]; exact hR
  · refine Ev.neg c ?_
    refine Ev.step (fun k => by rw [dN]) (Ev.neg (by decide) ?_)
    rw [hw]; exact hR
 induction d with
 | zero =>
  intro m out h0 h1 h8 hp
  refine ⟨out, hp, fun y => ?_, by omega, fun R hR => leave out m R (by omega) (.inr (by omega)) hR⟩
  rw [List.drop_eq_nil_of_le (by omega)]
  constructor
  · exact .inl
  · rintro (h | ⟨_, _, z, hz, _⟩)
    · exact h
    · cases hz
 | succ d ih =>
  intro m out h0 h1 h8 hp
  have hm : m < out.length := by omega
  by_cases ci : S[i] ∈ out
  · refine ⟨out, hp, fun y => ?_, by omega, fun R hR => leave out m R (by omega) (.inl ci) hR⟩
    constructor
    · exact .inl
    · rintro (h | ⟨_, h, _⟩)
      · exact h
      · exact absurd ci h
  · have go : ∀ R, Ev (fun k => dN k S out r (i : Int) (m : Int) true (n : Int) e) R → Ev (fun k => dA k S out r (i : Int) (m : Int) (n : Int) e) R := by
      intro R hR
      refine Ev.step (fun k => by rw [dA]) ?_
      refine Ev.pos (by omega) (Ev.pos (by omega) (Ev.pos (by omega) ?_))
      rw [aM S i hi]
      refine Ev.bind (fl out S[i] (by omega)) ?_
      rw [ao ci]
      exact hR
    by_cases cn : aW e out[m] S[i] = true
    · obtain ⟨R1, p1, p2, p3⟩ := mi out (by omega) hp S[i] ci
      have hl : R1.length ≤ out.length + 1 := by
        have := FPure.subset_len (V := R1) (L := S[i] :: out) (p2.imp (fun h => by omega)) (fun v hv => by
          rcases (p3 v).1 hv with h | h
          · exact .tail _ h
          · rw [h]; exact .head _)
        simpa using this
      refine ⟨R1, p2, fun y => ?_, hl, fun R hR => go R ?_⟩
      · rw [p3]
        constructor
        · rintro (h | h)
          · exact .inl h
          · exact .inr ⟨h, ci, out[m], by rw [List.drop_eq_getElem_cons hm]; exact .head _, cn⟩
        · rintro (h | ⟨h, _⟩)
          · exact .inl h
          · exact .inr h
      · refine Ev.step (fun k => by rw [dN]) (Ev.pos rfl (Ev.pos (by omega) (Ev.pos (by omega) (Ev.pos (by omega) (Ev.pos (by omega) ?_)))))
        rw [aM S i hi, aM out m hm]
        refine Ev.bind (jg (n : Int) e out[m] S[i] he) (Ev.pos cn ?_)
        refine Ev.bind p1 ?_
        rw [aJ hm (by omega)]
        exact leave R1 (m + 1) R (by omega) (.inl ((p3 _).2 (.inr rfl))) hR
    · obtain ⟨out', q1, q2, q3, q4⟩ := ih (m + 1) out (by omega) (by omega) h8 hp
      refine ⟨out', q1, fun y => ?_, q3, fun R hR => go R ?_⟩
      · rw [q2, List.drop_eq_getElem_cons hm]
        constructor
        · rintro (h | ⟨h, h2, z, hz, h3⟩)
          · exact .inl h
          · exact .inr ⟨h, h2, z, .tail _ hz, h3⟩
        · rintro (h | ⟨h, h2, z, hz, h3⟩)
          · exact .inl h
          · rcases List.mem_cons.1 hz with rfl | hz
            · exact absurd h3 cn
            · exact .inr ⟨h, h2, z, hz, h3⟩
      · refine Ev.step (fun k => by rw [dN]) (Ev.pos rfl (Ev.pos (by omega) (Ev.pos (by omega) (Ev.pos (by omega) (Ev.pos (by omega) ?_)))))
        rw [aM S i hi, aM out m hm]
        refine Ev.bind (jg (n : Int) e out[m] S[i] he) (Ev.neg cn ?_)
        rw [aJ hm (by omega)]
        exact q4 R hR
def ic (e : List S63) (S out : List Int) : Prop := ∀ s ∈ S, s ∉ out → ∀ z ∈ out, ¬ aW e z s = true
omit he in
theorem rC {out : List Int} (hp : out.Pairwise (· < ·)) (ho : ∀ y ∈ out, y ∈ S) : out.length ≤ 8 := by
 have := FPure.subset_len (V := out) (L := S) (hp.imp (fun h => by omega)) ho
 omega
theorem pZ (r : Nat) (d : Nat) : ∀ (m : Nat) (out : List Int), S.length - m = d → m ≤ S.length → out.Pairwise (· < ·) → (∀ y ∈ out, y ∈ S) →
  ∃ out', out'.Pairwise (· < ·) ∧ (∀ y ∈ out', y ∈ S) ∧ (∀ y ∈ out, y ∈ out') ∧ (∀ P : Int → Prop, (∀ z s, P z → s ∈ S → aW e z s = true → P s) → (∀ y ∈ out, P y) → ∀ y ∈ out', P y) ∧
    (out'.length ≤ out.length → ∀ s ∈ S.drop m, s ∉ out → ∀ z ∈ out, ¬ aW e z s = true) ∧
    ∀ R, Ev (fun k => dM k S out' (wrap64 ((r : Int) + 1)) (n : Int) e) R → Ev (fun k => dL k S out (r : Int) (m : Int) (n : Int) e) R := by
 induction d with
 | zero =>
  intro m out h0 h1 hp ho
  refine ⟨out, hp, ho, fun y hy => hy, fun P _ h => h, fun _ s hs => ?_, fun R hR => ?_⟩
  · rw [List.drop_eq_nil_of_le (by omega)] at hs; cases hs
  · refine Ev.step (fun k => by rw [dL]) (Ev.neg (by omega) ?_)
    exact hR
 | succ d ih =>
  intro m out h0 h1 hp ho
  have hm : m < S.length := by omega
  have h8 := rC S hS hp ho
  obtain ⟨o1, a1, a2, a3, a4⟩ := qa n e he S hS m hm (r : Int) (out.length - 0) 0 out rfl (Nat.zero_le _) h8 hp
  rw [List.drop_zero] at a2
  have ho1 : ∀ y ∈ o1, y ∈ S := fun y hy => by
    rcases (a2 y).1 hy with h | ⟨h, _⟩
    · exact ho y h
    · rw [h]; exact List.getElem_mem hm
  obtain ⟨o2, b1, b2, b3, b4, b5, b6⟩ := ih (m + 1) o1 (by omega) (by omega) a1 ho1
  have nd : ∀ {l : List Int}, l.Pairwise (· < ·) → l.Nodup := fun h => h.imp (fun h => by omega)
  have l1 : out.length ≤ o1.length := FPure.subset_len (nd hp) (fun y hy => (a2 y).2 (.inl hy))
  have l2 : o1.length ≤ o2.length := FPure.subset_len (nd a1) (fun y hy => b3 y hy)
  refine ⟨o2, b1, b2, fun y hy => b3 y ((a2 y).2 (.inl hy)), fun P hP h => b4 P hP (fun y hy => ?_), fun hle s hs hso z hz hh => ?_, fun R hR => ?_⟩
  · rcases (a2 y).1 hy with h2 | ⟨h2, _, z, hz, h3⟩
    · exact h y h2
    · rw [h2]; exact hP z _ (h z hz) (List.getElem_mem hm) h3
  · have same : ∀ y, y ∈ o1 → y ∈ out := fun y hy => by
      refine Classical.byContradiction fun hn => ?_
      have := FPure.subset_len (V := y :: out) (L := o1) (List.nodup_cons.2 ⟨hn, nd hp⟩) (fun v hv => by
       rcases List.mem_cons.1 hv with rfl | hv
       · exact hy
       · exact (a2 v).2 (.inl hv))
      rw [List.length_cons] at this
      omega
    rw [List.drop_eq_getElem_cons hm] at hs
    rcases List.mem_cons.1 hs with rfl | hs
    · exact hso (same _ ((a2 _).2 (.inr ⟨rfl, hso, z, hz, hh⟩)))
    · exact b5 (by omega) s hs (fun h => hso (same s h)) z ((a2 z).2 (.inl hz)) hh
  · refine Ev.step (fun k => by rw [dL]) (Ev.pos (by omega) ?_)
    have := a4 R (b6 R hR)
    simpa only [Int.natCast_zero] using this
theorem pY (x : Int) (d : Nat) : ∀ (m : Nat) (out : List Int), S.length - m = d → m ≤ S.length → out.Pairwise (· < ·) → (∀ y ∈ out, y ∈ S) → x ∈ out → (m + 1 ≤ out.length ∨ ic e S out) →
  (∀ P : Int → Prop, (∀ z s, P z → s ∈ S → aW e z s = true → P s) → P x → ∀ y ∈ out, P y) →
  ∃ R, R.Pairwise (· < ·) ∧ (∀ y ∈ R, y ∈ S) ∧ x ∈ R ∧ ic e S R ∧ (∀ P : Int → Prop, (∀ z s, P z → s ∈ S → aW e z s = true → P s) → P x → ∀ y ∈ R, P y) ∧ Ev (fun k => dM k S out (m : Int) (n : Int) e) R := by
 have nd : ∀ {l : List Int}, l.Pairwise (· < ·) → l.Nodup := fun h => h.imp (fun h => by omega)
 induction d with
 | zero =>
  intro m out h0 h1 hp ho hx hc hm
  have hl := FPure.subset_len (nd hp) ho
  refine ⟨out, hp, ho, hx, hc.resolve_left (by omega), hm, ?_⟩
  exact Ev.step (fun k => by rw [dM]) (Ev.neg (by omega) (Ev.now _))
 | succ d ih =>
  intro m out h0 h1 hp ho hx hc hm
  have hml : m < S.length := by omega
  obtain ⟨o1, a1, a2, a3, a4, a5, a6⟩ := pZ n e he S hS m (S.length - 0) 0 out rfl (Nat.zero_le _) hp ho
  rw [List.drop_zero] at a5
  have hle : out.length ≤ o1.length := FPure.subset_len (nd hp) a3
  have hcl : m + 1 + 1 ≤ o1.length ∨ ic e S o1 := by
   have key : ic e S out → ic e S o1 := by
     intro hs s hsS hso z hz hh
     have sub := a4 (fun y => y ∈ out) (fun z s hz hs2 hh => Classical.byContradiction fun hn => hs s hs2 hn z hz hh) (fun y hy => hy)
     exact hs s hsS (fun h => hso (a3 s h)) z (sub z hz) hh
   by_cases c : o1.length ≤ out.length
   · exact .inr (key (a5 c))
   · rcases hc with hc | hc
     · exact .inl (by omega)
     · exact .inr (key hc)
  obtain ⟨R, r1, r2, r3, r4, r5, r6⟩ := ih (m + 1) o1 (by omega) (by omega) a1 a2 (a3 x hx) hcl (fun P hP h => a4 P hP (hm P hP h))
  refine ⟨R, r1, r2, r3, r4, r5, ?_⟩
  refine Ev.step (fun k => by rw [dM]) (Ev.pos (by omega) ?_)
  have := a6 R (by rw [aJ hml (by omega)]; exact r6)
  simpa only [Int.natCast_zero] using this
end
section
variable (n : Nat) (hn : n ≤ 8) (e : List S63) (he : e.length ≤ 1048576) (S : List Int) (hSp : S.Pairwise (· < ·)) (hSr : ∀ x ∈ S, 0 ≤ x ∧ x < (n : Int))
include hn he hSp hSr
omit he hn in
theorem jY : S.length ≤ n := by
 have := FPure.subset_len (V := S) (L := (List.range n).map (fun (k : Nat) => (k : Int))) (hSp.imp (fun h => by omega)) (fun v hv => by
  have := hSr v hv
  exact List.mem_map.2 ⟨v.toNat, List.mem_range.2 (by omega), by omega⟩)
 simpa using this
theorem qc (x : Int) (hx : x ∈ S) : Ev (fun k => hX k (n : Int) e S x) (bo (az n e) (fun y => y ∉ S) x) := by
 have hl := jY n S hSp hSr
 have h8 : S.length ≤ 8 := by omega
 obtain ⟨R, r1, r2, r3, r4, r5, r6⟩ := pY n e he S h8 x (S.length - 0) 0 [x] rfl (Nat.zero_le _) (by simp) (fun y hy => by rw [List.mem_singleton.1 hy]; exact hx) (.head _) (.inl (by simp)) (fun P _ h y hy => by rw [List.mem_singleton.1 hy]; exact h)
 have hlen := bY n e
 have hxr := hSr x hx
 have eq : R = bo (az n e) (fun y => y ∉ S) x := by
  refine fy r1 (gU _ _ _) (fun y => ?_)
  rw [ed]
  constructor
  · intro hy
    have hyr := hSr y (r2 y hy)
    refine ⟨by rw [hlen]; exact hyr, ?_⟩
    have key := r5 (fun y => y ∈ S ∧ bn (az n e) (fun y => y ∉ S) x y) (fun z s hz hs hh => ⟨hs, by
     have hzr := hSr z hz.1
     exact fg hz.2 hzr.1 (by rw [hlen]; exact hzr.2) ((gw n e hzr.1 hzr.2).2 ⟨hSr s hs, hh⟩) (fun h => h hs)⟩) ⟨hx, eD x⟩ y hy
    exact key.2
  · rintro ⟨_, hr⟩
    refine hr (fun y => y ∈ R) (fun a a0 a1 ha b hb hbo => ?_) r3
    rw [hlen] at a1
    have hb2 := (gw n e a0 a1).1 hb
    have hbS : b ∈ S := Classical.byContradiction fun h => hbo h
    exact Classical.byContradiction fun hn => r4 b hbS hn a ha hb2.2
 rw [← eq]
 unfold hX
 simpa only [Int.natCast_zero] using r6
omit he in
theorem pw (i : Int) (out : List (List Int)) (part : List Int) (hpp : part.Pairwise (· < ·)) (hpS : ∀ y ∈ part, y ∈ S) (d : Nat) : ∀ (m : Nat) (seen : List Int), part.length - m = d → m ≤ part.length → seen.Pairwise (· < ·) → (∀ y ∈ seen, y ∈ S) → (∀ y ∈ part.drop m, y ∉ seen) → out.length ≤ 8 →
  ∃ seen', seen'.Pairwise (· < ·) ∧ (∀ y, y ∈ seen' ↔ y ∈ seen ∨ y ∈ part.drop m) ∧ ∀ R, Ev (fun k => cM k S (out ++ [part]) seen' (wrap64 (i + 1)) (n : Int) e) R → Ev (fun k => eX k S out seen i part (m : Int) (n : Int) e) R := by
 have hl := jY n S hSp hSr
 have nd : ∀ {l : List Int}, l.Pairwise (· < ·) → l.Nodup := fun h => h.imp (fun h => by omega)
 have hpl := FPure.subset_len (nd hpp) hpS
 induction d with
 | zero =>
  intro m seen h0 h1 hp hsS hd ho
  refine ⟨seen, hp, fun y => by rw [List.drop_eq_nil_of_le (by omega)]; simp, fun R hR => ?_⟩
  exact Ev.step (fun k => by rw [eX]) (Ev.neg (by omega) (Ev.pos (by omega) hR))
 | succ d ih =>
  intro m seen h0 h1 hp hsS hd ho
  have hm : m < part.length := by omega
  rw [List.drop_eq_getElem_cons hm] at hd
  have hsl := FPure.subset_len (nd hp) hsS
  obtain ⟨s1, p1, p2, p3⟩ := mi seen (by omega) hp part[m] (hd _ (.head _))
  have hnd := nd hpp
  obtain ⟨s2, q1, q2, q3⟩ := ih (m + 1) s1 (by omega) (by omega) p2 (fun y hy => by
      rcases (p3 y).1 hy with h | h
      · exact hsS y h
      · rw [h]; exact hpS _ (List.getElem_mem hm)) (fun y hy hy2 => by
      rcases (p3 y).1 hy2 with h | h
      · exact hd y (.tail _ hy) h
      · have h4 := hpp.sublist (List.drop_sublist m part)
        rw [List.drop_eq_getElem_cons hm] at h4
        have := (List.pairwise_cons.1 h4).1 y hy
        omega) ho
  refine ⟨s2, q1, fun y => ?_, fun R hR => ?_⟩
  · rw [q2, p3, List.drop_eq_getElem_cons hm, List.mem_cons]
    constructor
    · rintro ((h | h) | h)
      · exact .inl h
      · exact .inr (.inl h)
      · exact .inr (.inr h)
    · rintro (h | h | h)
      · exact .inl (.inl h)
      · exact .inl (.inr h)
      · exact .inr h
  · refine Ev.step (fun k => by rw [eX]) (Ev.pos (by omega) (Ev.pos (by omega) ?_))
    rw [aM part m hm]
    refine Ev.bind p1 ?_
    rw [aJ hm (by omega)]
    exact q3 R hR
open Classical in
theorem ql (d : Nat) : ∀ (m : Nat) (out : List (List Int)) (seen : List Int), S.length - m = d → m ≤ S.length → out.length ≤ m → seen.Pairwise (· < ·) → (∀ y, y ∈ seen ↔ y ∈ S ∧ ∃ s ∈ S.take m, bn (az n e) (fun y => y ∉ S) s y) →
  Ev (fun k => cM k S out seen (m : Int) (n : Int) e) (out ++ ((S.drop m).filter (fun x => decide (bO (az n e) (fun y => y ∉ S) x.toNat))).map (bo (az n e) (fun y => y ∉ S))) := by
 have hl := jY n S hSp hSr
 have hlen := bY n e
 have hz := (j4 n e).1
 have hsym := j2 n e
 have nd : ∀ {l : List Int}, l.Pairwise (· < ·) → l.Nodup := fun h => h.imp (fun h => by omega)
 induction d with
 | zero =>
  intro m out seen h0 h1 ho hp hsn
  rw [List.drop_eq_nil_of_le (by omega), List.filter_nil, List.map_nil, List.append_nil]
  exact Ev.step (fun k => by rw [cM]) (Ev.neg (by omega) (Ev.now _))
 | succ d ih =>
  intro m out seen h0 h1 ho hp hsn
  have hm : m < S.length := by omega
  have hmS : S[m] ∈ S := List.getElem_mem hm
  have hmr := hSr _ hmS
  have hsl := FPure.subset_len (nd hp) (fun y hy => ((hsn y).1 hy).1)
  have htn : ((S[m].toNat : Nat) : Int) = S[m] := by omega
  have htake : ∀ {s : Int}, s ∈ S.take (m + 1) ↔ s ∈ S.take m ∨ s = S[m] := by
    intro s
    rw [List.take_add_one, List.getElem?_eq_getElem hm, List.mem_append]
    simp
  have hbef : ∀ s, s ∈ S.take m ↔ s ∈ S ∧ s < S[m] := by
    intro s
    have h5 := hSp
    rw [← List.take_append_drop m S, List.pairwise_append] at h5
    constructor
    · intro h
      exact ⟨List.mem_of_mem_take h, h5.2.2 s h S[m] (by rw [List.drop_eq_getElem_cons hm]; exact .head _)⟩
    · rintro ⟨h, h2⟩
      rw [← List.take_append_drop m S, List.mem_append] at h
      rcases h with h | h
      · exact h
      · rw [List.drop_eq_getElem_cons hm] at h h5
        rcases List.mem_cons.1 h with h | h
        · omega
        · have := (List.pairwise_cons.1 h5.2.1).1 s h; omega
  have hrep : bO (az n e) (fun y => y ∉ S) S[m].toNat ↔ S[m] ∉ seen := by
    unfold bO
    rw [htn]
    constructor
    · rintro ⟨_, h2⟩ h3
      obtain ⟨_, s, hs, hr⟩ := (hsn _).1 h3
      have := (hbef s).1 hs
      have hsr := hSr s this.1
      exact h2 s.toNat (by omega) (fun h => h (by rw [show ((s.toNat : Nat) : Int) = s by omega]; exact this.1)) (by rw [show ((s.toNat : Nat) : Int) = s by omega]; exact hr)
    · intro h
      refine ⟨fun h2 => h2 hmS, fun i' hi' hi2 hr => h ((hsn _).2 ⟨hmS, (i' : Int), (hbef _).2 ⟨Classical.byContradiction hi2, by omega⟩, hr⟩)⟩
  rw [List.drop_eq_getElem_cons hm, List.filter_cons]
  by_cases c : S[m] ∈ seen
  · rw [if_neg (by simpa using fun h => (hrep.1 h) c)]
    refine Ev.step (fun k => by rw [cM]) (Ev.pos (by omega) (Ev.pos (by omega) ?_))
    rw [aM S m hm]
    refine Ev.bind (fl seen S[m] (by omega)) ?_
    rw [af c]
    refine Ev.pos rfl ?_
    rw [aJ hm (by omega)]
    refine ih (m + 1) out seen (by omega) (by omega) (by omega) hp (fun y => ?_)
    rw [hsn]
    constructor
    · rintro ⟨h, s, hs, hr⟩
      exact ⟨h, s, htake.2 (.inl hs), hr⟩
    · rintro ⟨h, s, hs, hr⟩
      rcases htake.1 hs with hs | rfl
      · exact ⟨h, s, hs, hr⟩
      · obtain ⟨_, s2, hs2, hr2⟩ := (hsn _).1 c
        exact ⟨h, s2, hs2, gx hr2 hr⟩
  · rw [if_pos (af (hrep.2 c)), List.map_cons]
    refine Ev.step (fun k => by rw [cM]) (Ev.pos (by omega) (Ev.pos (by omega) ?_))
    rw [aM S m hm]
    refine Ev.bind (fl seen S[m] (by omega)) ?_
    rw [ao c]
    refine Ev.neg (by decide) ?_
    refine Ev.bind (qc n hn e he S hSp hSr S[m] hmS) ?_
    have hcS : ∀ y ∈ bo (az n e) (fun y => y ∉ S) S[m], y ∈ S := fun y hy => by
      have := ja hz hmr.1 (by rw [hlen]; exact hmr.2) (fun h => h hmS) ((ed _ _ _ _).1 hy).2
      exact Classical.byContradiction this.2
    obtain ⟨s2, q1, q2, q3⟩ := pw n hn e S hSp hSr (m : Int) out (bo (az n e) (fun y => y ∉ S) S[m]) (gU _ _ _) hcS _ 0 seen rfl (Nat.zero_le _) hp (fun y hy => ((hsn y).1 hy).1) (fun y hy hy2 => by
      rw [List.drop_zero] at hy
      obtain ⟨hyS, s, hs, hr⟩ := (hsn y).1 hy2
      have hr2 := ((ed _ _ _ _).1 hy).2
      have hback := l6 hz hsym hmr.1 (by rw [hlen]; exact hmr.2) (fun h => h hmS) hr2
      exact c ((hsn _).2 ⟨hmS, s, hs, gx hr hback⟩)) (by omega)
    have h2 := ih (m + 1) (out ++ [bo (az n e) (fun y => y ∉ S) S[m]]) s2 (by omega) (by omega) (by rw [List.length_append, List.length_singleton]; omega) q1 (fun y => by
      rw [q2, hsn, List.drop_zero, ed]
      constructor
      · rintro (⟨h, s, hs, hr⟩ | ⟨h, hr⟩)
        · exact ⟨h, s, htake.2 (.inl hs), hr⟩
        · have := ja hz hmr.1 (by rw [hlen]; exact hmr.2) (fun h => h hmS) hr
          exact ⟨Classical.byContradiction this.2, S[m], htake.2 (.inr rfl), hr⟩
      · rintro ⟨h, s, hs, hr⟩
        rcases htake.1 hs with hs | rfl
        · exact .inl ⟨h, s, hs, hr⟩
        · exact .inr ⟨by rw [hlen]; exact hSr y h, hr⟩)
    rw [List.append_assoc, List.singleton_append] at h2
    have := q3 _ (by rw [aJ hm (by omega)]; exact h2)
    simpa only [Int.natCast_zero] using this
theorem mo : Ev (fun k => fD k (n : Int) e S) ((bF (az n e) (fun y => y ∉ S) n 0).map (fun (i : Nat) => bo (az n e) (fun y => y ∉ S) (i : Int))) := by
 have h := ql n hn e he S hSp hSr (S.length - 0) 0 [] [] rfl (Nat.zero_le _) (ar _) .nil (fun y => by simp)
 rw [List.drop_zero, List.nil_append] at h
 have eq : S.filter (fun x => @decide (bO (az n e) (fun y => y ∉ S) x.toNat) (Classical.propDecidable _)) = (bF (az n e) (fun y => y ∉ S) n 0).map (fun (i : Nat) => (i : Int)) := by
  refine fy (hSp.filter _) ?_ (fun x => ?_)
  · rw [cX, List.pairwise_map]
    refine List.Pairwise.imp (fun {a b} (h : a < b) => by omega) (List.Pairwise.sublist List.filter_sublist List.pairwise_lt_range')
  · rw [List.mem_filter, List.mem_map]
    constructor
    · rintro ⟨hx, h2⟩
      have := hSr x hx
      refine ⟨x.toNat, ?_, by omega⟩
      rw [cX, List.mem_filter]
      exact ⟨by rw [List.mem_range'_1]; omega, by simpa using h2⟩
    · rintro ⟨i, hi, rfl⟩
      rw [cX, List.mem_filter] at hi
      have hi2 : bO (az n e) (fun y => y ∉ S) i := by simpa using hi.2
      exact ⟨Classical.byContradiction hi2.1, by simpa using hi2⟩
 have eq2 : (S.filter (fun x => @decide (bO (az n e) (fun y => y ∉ S) x.toNat) (Classical.propDecidable _))).map (bo (az n e) (fun y => y ∉ S)) = (bF (az n e) (fun y => y ∉ S) n 0).map (fun (i : Nat) => bo (az n e) (fun y => y ∉ S) (i : Int)) := by
  rw [eq, List.map_map]; rfl
 unfold fD
 rw [← eq2]
 simpa only [Int.natCast_zero] using h
end
def fp (e : List S63) (l : List Int) (r : Bool) : Nat → Nat → Bool
 | 0, _ => r
 | d + 1, i => if (l.take i).any (fun y => aW e y (l[i]?.getD 0)) = true then false else fp e l r d (i + 1)
theorem sD (e : List S63) (l : List Int) (r : Bool) (d : Nat) : ∀ i, fp e l r d i = true ↔ r = true ∧ ∀ q, i ≤ q → q < i + d → ∀ y ∈ l.take q, ¬ aW e y (l[q]?.getD 0) = true := by
 induction d with
 | zero => intro i; simp only [fp]; exact ⟨fun h => ⟨h, fun q h1 h2 => by omega⟩, fun h => h.1⟩
 | succ d ih =>
  intro i
  simp only [fp]
  by_cases c : (l.take i).any (fun y => aW e y (l[i]?.getD 0)) = true
  · rw [if_pos c]
    refine ⟨fun h => by simp at h, fun h => ?_⟩
    obtain ⟨y, hy, hc⟩ := List.any_eq_true.1 c
    exact absurd hc (h.2 i (ar _) (by omega) y hy)
  · rw [if_neg c, ih]
    refine and_congr_right fun _ => ⟨fun h q h1 h2 y hy hc => ?_, fun h q h1 h2 => h q (by omega) (by omega)⟩
    by_cases hq : q = i
    · subst hq
      exact c (List.any_eq_true.2 ⟨y, hy, hc⟩)
    · exact h q (by omega) (by omega) y hy hc
section
variable (a : Int) (e : List S63) (l : List Int) (he : e.length ≤ 1048576) (hl : l.length ≤ 1048576)
include he hl
theorem sx {R : Bool} (i : Nat) (hi : i < l.length) (d : Nat) : ∀ (j : Nat), i - j = d → j ≤ i → Ev (fun k => em k l (wrap64 ((i : Int) + 1)) a e) R →
  Ev (fun k => eV k l (i : Int) (j : Int) a e) (if ((l.take i).drop j).any (fun y => aW e y (l[i]?.getD 0)) = true then false else R) := by
 induction d with
 | zero =>
  intro j h0 h1 h
  refine Ev.step (fun k => by rw [eV]) (Ev.neg (by omega) ?_)
  rw [List.drop_eq_nil_of_le (by rw [List.length_take]; omega), List.any_nil, if_neg (by decide)]
  exact h
 | succ d ih =>
  intro j h0 h1 h
  have hj : j < l.length := by omega
  refine Ev.step (fun k => by rw [eV]) (Ev.pos (by omega) (Ev.pos (by omega) (Ev.pos (by omega) (Ev.pos (by omega) (Ev.pos (by omega) ?_)))))
  rw [aM l j hj, aM l i hi]
  refine Ev.bind (jg a e l[j] l[i] he) ?_
  have hd : (l.take i).drop j = l[j] :: (l.take i).drop (j + 1) := by
    rw [List.drop_eq_getElem_cons (by rw [List.length_take]; omega), List.getElem_take]
  rw [hd, List.any_cons, List.getElem?_eq_getElem hi, Option.getD_some]
  by_cases c : aW e l[j] l[i] = true
  · rw [c, Bool.true_or, if_pos rfl]
    exact Ev.pos rfl (Ev.now _)
  · have c' : aW e l[j] l[i] = false := by simpa using c
    rw [c', Bool.false_or, aJ hj (by omega)]
    have := ih (j + 1) (by omega) (by omega) h
    rw [List.getElem?_eq_getElem hi, Option.getD_some] at this
    exact Ev.neg (by decide) this
theorem sy (d : Nat) : ∀ (i : Nat), l.length - i = d → i ≤ l.length → Ev (fun k => em k l (i : Int) a e) (fp e l (bE 0 (wrap64 (a - 1)) none l) d i) := by
 induction d with
 | zero =>
  intro i h0 h1
  refine Ev.step (fun k => by rw [em]) (Ev.neg (by omega) ?_)
  exact Ev.bind (rj a e l hl) (Ev.now _)
 | succ d ih =>
  intro i h0 h1
  have hi : i < l.length := by omega
  refine Ev.step (fun k => by rw [em]) (Ev.pos (by omega) ?_)
  have h := ih (i + 1) (by omega) (by omega)
  rw [← aJ hi (by omega)] at h
  have := sx a e l he hl i hi i 0 (by omega) (by omega) h
  simpa only [List.drop_zero, fp, Int.natCast_zero] using this
end
theorem rh (a : Int) (e : List S63) (l : List Int) (he : e.length ≤ 1048576) (hl : l.length ≤ 1048576) : Ev (fun k => f8 k a e l) (fp e l (bE 0 (wrap64 (a - 1)) none l) l.length 0) :=
 sy a e l he hl l.length 0 (by omega) (Nat.zero_le _)
def cT (e : List S63) (l : List Int) : Bool := !(e.any fun s => decide (s.f0 ∈ l) && decide (s.f1 ∈ l))
theorem fP (e : List S63) (x y : Int) : aW e x y = true ↔ ∃ s ∈ e, (s.f0 = x ∧ s.f1 = y) ∨ (s.f0 = y ∧ s.f1 = x) := by
 unfold aW
 rw [List.any_eq_true]
 simp only [Bool.or_eq_true, Bool.and_eq_true, decide_eq_true_eq]
theorem sE (e : List S63) (l : List Int) (r : Bool) (hu : ∀ s ∈ e, s.f0 < s.f1) : fp e l r l.length 0 = (r && cT e l) := by
 rw [Bool.eq_iff_iff, sD, Bool.and_eq_true]
 refine and_congr_right fun _ => ?_
 unfold cT
 rw [Bool.not_eq_true', List.any_eq_false]
 simp only [Bool.and_eq_true, decide_eq_true_eq]
 constructor
 · intro h s hs hc
   obtain ⟨p, hp, h0⟩ := List.getElem_of_mem hc.1
   obtain ⟨q, hq, h1⟩ := List.getElem_of_mem hc.2
   have hne := hu s hs
   have hmem : ∀ p q (hp : p < l.length) (hq : q < l.length), p < q → l[p] ∈ l.take q := by
     intro p q hp hq hpq
     rw [List.mem_take_iff_getElem]
     exact ⟨p, by omega, rfl⟩
   rcases Nat.lt_trichotomy p q with hpq | hpq | hpq
   · refine h q (by omega) (by omega) l[p] (hmem p q hp hq hpq) ?_
     rw [List.getElem?_eq_getElem hq, Option.getD_some, fP]
     exact ⟨s, hs, .inl ⟨h0.symm, h1.symm⟩⟩
   · subst hpq
     rw [h0] at h1
     omega
   · refine h p (by omega) (by omega) l[q] (hmem q p hq hp hpq) ?_
     rw [List.getElem?_eq_getElem hp, Option.getD_some, fP]
     exact ⟨s, hs, .inr ⟨h0.symm, h1.symm⟩⟩
 · intro h q _ h2 y hy hc
   have hq : q < l.length := by omega
   rw [List.getElem?_eq_getElem hq, Option.getD_some, fP] at hc
   obtain ⟨s, hs, hc⟩ := hc
   have hy' : y ∈ l := List.mem_of_mem_take hy
   have hq' : l[q] ∈ l := List.getElem_mem hq
   refine h s hs ?_
   rcases hc with ⟨h0, h1⟩ | ⟨h0, h1⟩
   · exact ⟨h0 ▸ hy', h1 ▸ hq'⟩
   · exact ⟨h0 ▸ hq', h1 ▸ hy'⟩
theorem ry (a : Int) (e : List S63) (b : Int) (l : List Int) (he : ∀ s ∈ e, 0 ≤ s.f0 ∧ s.f0 < s.f1 ∧ s.f1 < 8) (hb : ∀ y, 0 ≤ y → y < 8 → aA b y = decide (y ∈ l)) : fo a e b = some (cT e l) := by
 unfold fo
 have h1 : e.all (fun s => (bU b s.f0).isSome && (bU b s.f1).isSome) = true := by
  rw [List.all_eq_true]
  intro s hs
  have := he s hs
  rw [ft (by omega), ft (by omega)]
  rfl
 rw [if_pos h1]
 unfold cT
 congr 2
 refine fX e _ _ fun s hs => ?_
 have := he s hs
 unfold eM
 rw [ft (by omega), ft (by omega), Option.getD_some, Option.getD_some, hb _ (by omega) (by omega), hb _ (by omega) (by omega)]
theorem mZ (a : Int) (e : List S63) (l : List Int) (hl : l.length ≤ 1048576) (hg : bH a e = true) :
  Ev (fun k => gQ k a e l) (bE 0 (wrap64 (a - 1)) none l && cT e l) := by
 have h1 := dF hg
 have hw : wrap64 (a - 1) = a - 1 := cL (by omega) (by omega)
 unfold gQ
 refine Ev.bind (pN l a hl) ?_
 cases h : bE 0 (wrap64 (a - 1)) none l with
 | false => rw [Bool.false_and]; exact Ev.neg (by decide) (Ev.now _)
 | true =>
  have hx : ∀ x ∈ l, 0 ≤ x ∧ x < 8 := fun x hx => by
   have := j8 _ _ l none h x hx
   omega
  have hb := (jF l 0 (by omega) hx).2
  rw [Bool.true_and]
  refine Ev.pos rfl (Ev.bind (dh l hl hx) (Ev.bindo (ry a e (aE 0 l) l (fun s hs => by have := h1.2.2 s hs; omega) (fun y h0 h8 => by rw [hb y h0 h8, iC h0 h8, Bool.false_or])) (Ev.now _)))
def iE (e : List S63) (lo hi b : Int) : Bool := (decide (lo ≤ ((bS b).length : Int)) && decide (((bS b).length : Int) ≤ hi)) && cT e (bS b)
def br (n : Nat) (e : List S63) (lo hi : Int) : List (List Int) := bQ (cA (iE e lo hi) (2 ^ n))
theorem jz {n : Nat} (hn : n ≤ 8) (e : List S63) (lo hi : Int) (s : List Int) : s ∈ br n e lo hi ↔ SetN n s ∧ (lo ≤ (s.length : Int) ∧ (s.length : Int) ≤ hi) ∧ cT e s = true := by
 unfold br
 rw [jR, tM hn]
 refine and_congr_right fun h => ?_
 unfold iE
 rw [(h.code hn).2, Bool.and_eq_true, Bool.and_eq_true, decide_eq_true_eq, decide_eq_true_eq]
theorem kA {n : Nat} (hn : n ≤ 8) (e : List S63) (lo hi : Int) : LexS (br n e lo hi) := lF _ (tL (Nat.pow_le_pow_right (n := 2) (by decide) (show n ≤ 8 from hn)) _)
theorem nv {n : Nat} (hn : n ≤ 8) (e : List S63) (lo hi : Int) : (br n e lo hi).length ≤ 256 := by
 unfold br
 rw [lG]
 exact Nat.le_trans (kE _ _) (Nat.pow_le_pow_right (n := 2) (by decide) (show n ≤ 8 from hn))
section
variable (n : Nat) (hn : n ≤ 8) (e : List S63) (he : e.length ≤ 1048576) (hg : bH (n : Int) e = true) (lo hi : Int)
include hn he hg
theorem sC (b : Int) (hb : 0 ≤ b ∧ b < 256) : fS e lo hi b = iE e lo hi b := by
 have _hu := he
 have h1 := dF hg
 unfold fS iE cT
 congr 2
 refine fX e _ _ fun s hs => ?_
 have h2 := h1.2.2 s hs
 unfold eM
 rw [ft (by omega), ft (by omega), Option.getD_some, Option.getD_some]
 have hm : ∀ x : Int, 0 ≤ x → x < 8 → aA b x = decide (x ∈ bS b) := fun x h0 h8 => by
  rw [Bool.eq_iff_iff, decide_eq_true_eq, cD]
  exact ⟨fun h => ⟨by omega, h⟩, fun h => h.2⟩
 rw [hm _ (by omega) (by omega), hm _ (by omega) (by omega)]
theorem sA : iB (n : Int) e lo hi = some (br n e lo hi) := by
 have h1 := dF hg
 have hpow : 2 ^ n ≤ 256 := Nat.pow_le_pow_right (n := 2) (by decide) (show n ≤ 8 from hn)
 unfold iB br
 rw [if_pos ⟨by omega, by
  unfold iF
  rw [List.all_eq_true]
  intro s hs
  have := h1.2.2 s hs
  rw [af (show 0 ≤ s.f0 by omega), af (show 0 ≤ s.f1 by omega)]
  rfl⟩, Int.toNat_natCast]
 unfold cA
 rw [pv (fS e lo hi) (iE e lo hi) (2 ^ n) 0 fun z h0 h2 => sC n hn e he hg lo hi z ⟨h0, by omega⟩]
end
def jl (a : Int) (e : List S63) (k0 : Int) : List (List Int) × Bool := if (bH a e && (decide (0 ≤ k0) && decide (k0 ≤ 8))) = true then (br a.toNat e k0 k0, true) else ([], false)
theorem rB {a : Int} {e : List S63} {k0 : Int} (hg : bH a e = true) (c : (decide (0 ≤ k0) && decide (k0 ≤ 8)) = true) : jl a e k0 = (br a.toNat e k0 k0, true) := if_pos (by rw [hg, c]; rfl)
theorem m6 {a : Int} {e : List S63} {k0 : Int} (c : ¬ (bH a e && (decide (0 ≤ k0) && decide (k0 ≤ 8))) = true) : jl a e k0 = ([], false) := if_neg c
theorem rI (a : Int) (e : List S63) (k0 : Int) (he : e.length ≤ 1048576) : Ev (fun k => fO k a e k0) (jl a e k0) := by
 by_cases hg : bH a e = true
 · have h1 := dF hg
   by_cases c : (decide (0 ≤ k0) && decide (k0 ≤ 8)) = true
   · rw [rB hg c]
     obtain ⟨n, rfl⟩ := Int.eq_ofNat_of_zero_le h1.1
     unfold fO
     refine Ev.bind (jt _ e he) ?_
     refine Ev.pos hg ?_
     refine Ev.bindo (jD _ _ _) ?_
     refine Ev.pos c ?_
     rw [Int.toNat_natCast]
     exact Ev.bindo (sA n (by omega) e he hg k0 k0) (Ev.now _)
   · rw [m6 (by rw [hg, Bool.true_and]; exact c)]
     unfold fO
     refine Ev.bind (jt _ e he) ?_
     refine Ev.pos hg ?_
     refine Ev.bindo (jD _ _ _) ?_
     exact Ev.neg c (Ev.now _)
 · rw [m6 (by rw [Bool.and_eq_true]; exact fun h => hg h.1)]
   unfold fO
   refine Ev.bind (jt _ e he) ?_
   exact Ev.neg hg (Ev.now _)
theorem iP (n : Int) (h0 : 0 ≤ n) (h1 : n < 2 ^ 8) : IntKind.u64.wrap n = n := by
 simp [IntKind.wrap, IntKind.bits, IntKind.signed]
 omega
theorem eL (n y : Nat) (hn : n < 256) (hy : y < 8) : aA (n : Int) (y : Int) = n.testBit y := by
 unfold aA dn
 have e : (n : Int) / 2 ^ min (y : Int).toNat IntKind.u64.bits = ((n / 2 ^ y : Nat) : Int) := by
  rw [Int.toNat_natCast, Nat.min_eq_left (by show y ≤ 64; omega)]
  simp
 rw [e, show (1 : Int) = ((1 : Nat) : Int) from rfl, (bits_nat .u64 8 (by decide) iP (n / 2 ^ y) 1 (Nat.lt_of_le_of_lt (Nat.div_le_self _ _) hn) (by decide)).1, Nat.and_one_is_mod, Nat.testBit_eq_decide_div_mod_eq, Bool.eq_iff_iff, beq_iff_eq, decide_eq_true_eq]
 omega
theorem qX (n m : Nat) (hn : n < 256) (hm : m < 256) : ∃ q : Nat, cw (n : Int) (m : Int) = (q : Int) ∧ q < 256 ∧ ∀ y : Nat, q.testBit y = (n.testBit y && !m.testBit y) ∨ 8 ≤ y := by
 have h1 : (BitVec.ofNat 64 n &&& ~~~ BitVec.ofNat 64 m).toNat ≤ n := by
   rw [BitVec.toNat_and, BitVec.toNat_ofNat, Nat.mod_eq_of_lt (by omega)]
   exact Nat.and_le_left
 refine ⟨(BitVec.ofNat 64 n &&& ~~~ BitVec.ofNat 64 m).toNat, ?_, by omega, fun y => ?_⟩
 · unfold cw
   simp only [bits, BitVec.ofInt_natCast]
   exact iP _ (Int.natCast_nonneg _) (by
     have h2 : (BitVec.ofNat IntKind.u64.bits n &&& ~~~ BitVec.ofNat IntKind.u64.bits m).toNat ≤ n := h1
     have h3 : (2 : Int) ^ 8 = 256 := by decide
     rw [h3]
     omega)
 · by_cases hy : 8 ≤ y
   · exact .inr hy
   · left
     rw [BitVec.testBit_toNat, BitVec.getLsbD_and, BitVec.getLsbD_not, BitVec.getLsbD_ofNat, BitVec.getLsbD_ofNat]
     have : y < 64 := by omega
     simp [this]
theorem mM {b c : Int} (hb : 0 ≤ b ∧ b < 256) (hc : 0 ≤ c ∧ c < 256) : (0 ≤ cw b c ∧ cw b c < 256) ∧ ∀ y, 0 ≤ y → y < 8 → aA (cw b c) y = (aA b y && !aA c y) := by
 obtain ⟨n, rfl⟩ := Int.eq_ofNat_of_zero_le hb.1
 obtain ⟨m, rfl⟩ := Int.eq_ofNat_of_zero_le hc.1
 obtain ⟨q, h1, h2, h3⟩ := qX n m (by omega) (by omega)
 rw [h1]
 refine ⟨by omega, fun y h0 h8 => ?_⟩
 obtain ⟨z, rfl⟩ := Int.eq_ofNat_of_zero_le h0
 rw [eL q z h2 (by omega), eL n z (by omega) (by omega), eL m z (by omega) (by omega)]
 rcases h3 z with h | h
 · exact h
 · omega
theorem dw {x : List Int} (hx : SetN 8 x) (z : Int) (h0 : 0 ≤ z) (h8 : z < 8) : aA (aE 0 x) z = decide (z ∈ x) := by
 have h1 := (hx.code (by decide)).2
 rw [Bool.eq_iff_iff, decide_eq_true_eq]
 constructor
 · intro h
   rw [← h1]
   exact (cD _ _ _ _).2 ⟨by omega, h⟩
 · intro h
   rw [← h1] at h
   exact ((cD _ _ _ _).1 h).2
theorem qC {x : List Int} (hx : SetN 8 x) (y : List Int) : SetN 8 (bm x y) := ⟨hx.1.filter _, fun z hz => hx.2 z (List.mem_filter.1 hz).1⟩
theorem kd {x y : List Int} (hx : SetN 8 x) (hy : SetN 8 y) : bS (cw (aE 0 x) (aE 0 y)) = bm x y ∧ (0 ≤ cw (aE 0 x) (aE 0 y) ∧ cw (aE 0 x) (aE 0 y) < 256) := by
 have h1 := (hx.code (by decide)).1
 have h2 := (hy.code (by decide)).1
 have h3 := mM (b := aE 0 x) (c := aE 0 y) (by omega) (by omega)
 refine ⟨?_, h3.1⟩
 refine jc (fF _ _ _) (qC hx y).1 fun z => ?_
 unfold bm bS
 rw [cD, List.mem_filter]
 constructor
 · rintro ⟨h4, h5⟩
   rw [h3.2 z (by omega) (by omega), dw hx z (by omega) (by omega), dw hy z (by omega) (by omega), Bool.and_eq_true, decide_eq_true_eq] at h5
   exact h5
 · rintro ⟨h4, h5⟩
   have h6 := hx.2 z h4
   refine ⟨by omega, ?_⟩
   rw [h3.2 z (by omega) (by omega), dw hx z (by omega) (by omega), dw hy z (by omega) (by omega), af h4, Bool.true_and]
   exact h5
theorem cZ {x : List Int} (hx : SetN 8 x) : x.length ≤ 8 := hx.len
theorem qJ {x y : List Int} (hx : SetN 8 x) (hy : SetN 8 y) : Ev (fun k => ix k x y) (cw (aE 0 x) (aE 0 y), cw (aE 0 y) (aE 0 x)) := by
 have h1 := cZ hx
 have h2 := cZ hy
 unfold ix
 refine Ev.bind (dh x (by omega) fun z hz => hx.2 z hz) ?_
 refine Ev.bind (dh y (by omega) fun z hz => hy.2 z hz) ?_
 exact Ev.now _
theorem lK {x y : List Int} (hx : SetN 8 x) (hy : SetN 8 y) : d4 (cw (aE 0 x) (aE 0 y)) = some ((bm x y).length : Int) := by
 have h1 := kd hx hy
 rw [jV h1.2.1 h1.2.2, ← h1.1]
theorem qH (es : List S63) (a b : Int) : gC es a b = aW es a b := by
 unfold gC aW
 rfl
theorem ma (l : List Int) : rd l 0 = l.headD 0 := by cases l <;> rfl
theorem pi (a : Int) (es : List S63) (hl : es.length ≤ 1048576) (hu : ∀ e ∈ es, e.f0 < e.f1) {x y : List Int} (hx : SetN 8 x) (hy : SetN 8 y) : Ev (fun k => fm k a es x y) (ba es x y) := by
 unfold fm ba ir
 refine Ev.bind (qJ hx hy) ?_
 refine Ev.bindo (lK hx hy) ?_
 by_cases c : (bm x y).length = 1
 · rw [beq_iff_eq.mpr c, Bool.true_and]
   refine Ev.pos (by omega) ?_
   refine Ev.bindo (lK hy hx) ?_
   by_cases c2 : (bm y x).length = 1
   · rw [beq_iff_eq.mpr c2, Bool.true_and]
     refine Ev.pos (by omega) ?_
     refine Ev.bind (iL _) ?_
     rw [show aI (aA (cw (aE 0 x) (aE 0 y))) 8 0 = bm x y from (kd hx hy).1]
     refine Ev.pos (by omega) ?_
     refine Ev.bind (iL _) ?_
     rw [show aI (aA (cw (aE 0 y) (aE 0 x))) 8 0 = bm y x from (kd hy hx).1]
     refine Ev.pos (by omega) ?_
     rw [ma, ma, qH]
     exact Ev.bind (nm a es _ _ hl hu) (Ev.now _)
   · rw [beq_eq_false_iff_ne.mpr c2, Bool.false_and]
     exact Ev.neg (by omega) (Ev.now _)
 · rw [beq_eq_false_iff_ne.mpr c, Bool.false_and, Bool.false_and]
   exact Ev.neg (by omega) (Ev.now _)
theorem qB (x y : List Int) (hx : x.length ≤ 1048576) (hy : y.length ≤ 1048576) (d : Nat) : ∀ (m : Nat) (acc : List Int), x.length - m = d → m ≤ x.length → acc.length ≤ m → Ev (fun k => dy k x y acc (m : Int)) (acc ++ bm (x.drop m) y) := by
 induction d with
 | zero =>
  intro m acc h0 h1 h2
  rw [List.drop_eq_nil_of_le (by omega), show bm [] y = [] from rfl, List.append_nil]
  refine Ev.step (fun k => by rw [dy]) (Ev.neg (by omega) (Ev.now _))
 | succ d ih =>
  intro m acc h0 h1 h2
  have hm : m < x.length := by omega
  refine Ev.step (fun k => by rw [dy]) (Ev.pos (by omega) (Ev.pos (by omega) ?_))
  rw [aM x m hm, aJ hm (by omega)]
  refine Ev.bind (fl y _ hy) ?_
  rw [List.drop_eq_getElem_cons hm]
  by_cases c : x[m] ∈ y
  · refine Ev.pos (af c) ?_
    have := ih (m + 1) acc (by omega) (by omega) (by omega)
    have e : bm (x[m] :: x.drop (m + 1)) y = bm (x.drop (m + 1)) y := by unfold bm; rw [List.filter_cons_of_neg (by simp [c])]
    rw [e]
    exact this
  · refine Ev.neg (by simp [c]) (Ev.pos (by omega) ?_)
    have := ih (m + 1) (acc ++ [x[m]]) (by omega) (by omega) (by rw [List.length_append, List.length_singleton]; omega)
    have e : bm (x[m] :: x.drop (m + 1)) y = x[m] :: bm (x.drop (m + 1)) y := by unfold bm; rw [List.filter_cons_of_pos (by simp [c])]
    rw [e]
    rw [List.append_assoc] at this
    exact this
theorem my (x y : List Int) (hx : x.length ≤ 1048576) (hy : y.length ≤ 1048576) : Ev (fun k => f5 k x y) (bm x y) := by
 have := qB x y hx hy x.length 0 [] (by omega) (by omega) (by simp)
 unfold f5
 simpa only [List.nil_append, List.drop_zero, Int.natCast_zero] using this
def dK (es : List S63) (kind : Int) (x y : List Int) : Bool := if kind = 2 then uv x y else if kind = 1 then ir x y else ba es x y
theorem qD (x y : List Int) : (bm x y).length ≤ x.length := List.length_filter_le _ _
theorem tp {α β : Type} (t : List α) (f : Nat → α → Option β) (g : α → β) (h : ∀ x ∈ t, Ev (fun k => f k x) (g x)) : ∃ K, ∀ k, K ≤ k → ∀ x ∈ t, f k x = some (g x) := by
 induction t with
 | nil => exact ⟨0, fun _ _ x hx => by cases hx⟩
 | cons a t ih =>
  obtain ⟨K, hK⟩ := ih fun x hx => h x (List.mem_cons_of_mem _ hx)
  obtain ⟨K', hK'⟩ := h a (List.mem_cons_self ..)
  refine ⟨max K K', fun k hk x hx => ?_⟩
  rcases List.mem_cons.1 hx with rfl | hx
  · exact hK' k (by omega)
  · exact hK k (by omega) x hx
theorem o8 (f : Nat → List Int → List Int → Option Bool) (st : List Int → List Int → Bool) (t : List (List Int)) (hl : t.length ≤ 1024) (h : ∀ x ∈ t, ∀ y ∈ t, Ev (fun k => f k x y) (st x y)) (hs : bQ t = t) : Ev (fun k => gq (jI (f k) st t) st t) (t, aT st 0 t, true) := by
 obtain ⟨K, hK⟩ := tp (t.flatMap fun x => t.map fun y => (x, y)) (fun k p => f k p.1 p.2) (fun p => st p.1 p.2) fun p hp => by
  obtain ⟨x, hx, hp⟩ := List.mem_flatMap.1 hp
  obtain ⟨y, hy, rfl⟩ := List.mem_map.1 hp
  exact h x hx y hy
 refine ⟨K, fun k hk => ?_⟩
 show gq _ _ _ = _
 unfold gq
 rw [if_pos ⟨hl, af fun x hx y hy => hK k hk (x, y) (List.mem_flatMap.2 ⟨x, hx, List.mem_map.2 ⟨y, hy, rfl⟩⟩)⟩, hs]
theorem sB {n : Nat} (hn : n ≤ 8) (e : List S63) (lo hi : Int) : bQ (br n e lo hi) = br n e lo hi :=
 qW _ _ (lF _ (kA hn e lo hi).nodup) (kA hn e lo hi) fun s => jR _ _
theorem jA {n : Nat} (hn : n ≤ 8) {e : List S63} {lo hi : Int} {s : List Int} (h : s ∈ br n e lo hi) : SetN 8 s := ((jz hn e lo hi s).1 h).1.wide hn
def jL (a : Int) (e : List S63) (k0 lo hi kind : Int) : List (List Int) × List S63 × Bool :=
 if (bH a e && (decide (0 ≤ k0) && decide (k0 ≤ 8))) = true then (br a.toNat e lo hi, aT (dK e kind) 0 (br a.toNat e lo hi), true) else ([], [], false)
theorem rD (n : Nat) (hn : n ≤ 8) (e : List S63) (lo hi kind : Int) (f : Nat → List Int → List Int → Option Bool) (h : ∀ x y, SetN 8 x → SetN 8 y → Ev (fun k => f k x y) (dK e kind x y)) : Ev (fun k => gq (jI (f k) (dK e kind) (br n e lo hi)) (dK e kind) (br n e lo hi)) (br n e lo hi, aT (dK e kind) 0 (br n e lo hi), true) := by
 have h2 := nv hn e lo hi
 exact o8 f _ _ (by omega) (fun x hx y hy => h x y (jA hn hx) (jA hn hy)) (sB hn e lo hi)
theorem jP (e : List S63) : dK e 0 = ba e := by funext x y; unfold dK; rw [if_neg (by decide), if_neg (by decide)]
theorem rW (a : Int) (e : List S63) (k0 : Int) (he : e.length ≤ 1048576) : Ev (fun k => iA k a e k0) (jL a e k0 k0 k0 0) := by
 unfold iA jL
 refine Ev.bind (rI a e k0 he) ?_
 unfold jl
 by_cases c : (bH a e && (decide (0 ≤ k0) && decide (k0 ≤ 8))) = true
 · rw [if_pos c, if_pos c]
   have hg := ((Bool.and_eq_true _ _).mp c).1
   have h1 := dF hg
   obtain ⟨n, rfl⟩ := Int.eq_ofNat_of_zero_le h1.1
   refine Ev.pos rfl ?_
   rw [Int.toNat_natCast]
   have := rD n (by omega) e k0 k0 0 (fun k => fm k (n : Int) e) (fun x y hx hy => by rw [jP]; exact pi (n : Int) e he (fun s hs => (h1.2.2 s hs).2.1) hx hy)
   rw [jP] at this ⊢
   exact this
 · rw [if_neg c, if_neg c]
   exact Ev.neg (by decide) (Ev.now _)
theorem su (n : Int) (l : List S63) : ∀ p, (∀ e ∈ l, 0 ≤ e.f0 ∧ e.f0 < e.f1 ∧ e.f1 < n) → l.Pairwise (fun a b => bN a b = true) → (∀ q, p = some q → ∀ s ∈ l, bN q s = true) → bR n p l = true := by
 induction l with
 | nil => intro p _ _ _; rfl
 | cons x t ih =>
  intro p h1 h2 h3
  have h4 := h1 x (List.mem_cons_self ..)
  rw [List.pairwise_cons] at h2
  have h5 := ih (some x) (fun e he => h1 e (List.mem_cons_of_mem _ he)) h2.2 (fun q hq s hs => by injection hq with hq; subst hq; exact h2.1 s hs)
  simp only [bR, Bool.and_eq_true, decide_eq_true_eq]
  refine ⟨⟨⟨h4.1, h4.2.1⟩, h4.2.2⟩, ?_, h5⟩
  cases p with
  | none => rfl
  | some q => exact h3 q rfl x (List.mem_cons_self ..)
theorem j5 (st : List Int → List Int → Bool) (a : List Int) (i : Nat) (t : List (List Int)) : ∀ k, ∀ e ∈ cm st a i k t, e.f0 = (i : Int) ∧ (k : Int) ≤ e.f1 ∧ e.f1 < ((k + t.length : Nat) : Int) := by
 induction t with
 | nil => intro k e he; cases he
 | cons b t ih =>
  intro k e he
  simp only [cm, List.mem_append] at he
  rcases he with he | he
  · split at he
    · rw [List.mem_singleton] at he
      subst he
      exact ⟨rfl, Int.le_refl _, by rw [List.length_cons]; show (k : Int) < _; omega⟩
    · cases he
  · have := ih (k + 1) e he
    rw [List.length_cons]
    exact ⟨this.1, by omega, by omega⟩
theorem pF (st : List Int → List Int → Bool) (a : List Int) (i : Nat) (t : List (List Int)) : ∀ k, (cm st a i k t).Pairwise (fun a b => a.f0 = b.f0 ∧ a.f1 < b.f1) := by
 induction t with
 | nil => intro k; exact .nil
 | cons b t ih =>
  intro k
  simp only [cm]
  rw [List.pairwise_append]
  refine ⟨by split <;> simp, ih (k + 1), fun x hx y hy => ?_⟩
  have h2 := j5 st a i t (k + 1) y hy
  split at hx
  · rw [List.mem_singleton] at hx
    subst hx
    exact ⟨h2.1.symm, by show (k : Int) < _; omega⟩
  · cases hx
theorem nR (st : List Int → List Int → Bool) (t : List (List Int)) : ∀ i, ∀ e ∈ aT st i t, (i : Int) ≤ e.f0 ∧ e.f0 < e.f1 ∧ e.f1 < ((i + t.length : Nat) : Int) := by
 induction t with
 | nil => intro i e he; cases he
 | cons b t ih =>
  intro i e he
  simp only [aT, List.mem_append] at he
  rw [List.length_cons]
  rcases he with he | he
  · have := j5 st b i t (i + 1) e he
    exact ⟨by omega, by omega, by omega⟩
  · have := ih (i + 1) e he
    exact ⟨by omega, by omega, by omega⟩
theorem uo (st : List Int → List Int → Bool) (t : List (List Int)) : ∀ i, (aT st i t).Pairwise (fun a b => a.f0 < b.f0 ∨ (a.f0 = b.f0 ∧ a.f1 < b.f1)) := by
 induction t with
 | nil => intro i; exact .nil
 | cons b t ih =>
  intro i
  simp only [aT]
  rw [List.pairwise_append]
  refine ⟨(pF st b i t (i + 1)).imp fun h => .inr h, ih (i + 1), fun x hx y hy => .inl ?_⟩
  have h1 := j5 st b i t (i + 1) x hx
  have h2 := nR st t (i + 1) y hy
  omega
theorem uq (st : List Int → List Int → Bool) (t : List (List Int)) : bR (t.length : Int) none (aT st 0 t) = true := by
 refine su _ _ _ (fun e he => ?_) ((uo st t 0).imp fun {a b} h => ?_) (fun q hq => by cases hq)
 · have := nR st t 0 e he
   exact ⟨by omega, by omega, by omega⟩
 · unfold bN
   rcases h with h | h
   · simp [h]
   · simp [h.1, h.2]
theorem oo {n : Nat} (hn : n ≤ 8) (e : List S63) (lo hi kind : Int) : ik (br n e lo hi) (aT (dK e kind) 0 (br n e lo hi)) := by
 have h2 := nv hn e lo hi
 have h3 := nS (dK e kind) (br n e lo hi) 0
 have h4 : (br n e lo hi).length * (br n e lo hi).length ≤ 256 * 256 := Nat.mul_le_mul h2 h2
 exact ⟨by omega, fun s hs => by have := cZ (jA hn hs); omega, by omega⟩
section
variable {z : List (List Int)} (hn : z.length ≤ 1048576) (hr : ∀ i, (ai z i).length ≤ 1048576) {D : List Int} (hD : D.length = z.length)
include hn hr hD
end
theorem px (l : List (List Int)) (h : LexS l) (q : Nat) (hq : q < l.length) : cK (fun i => bI (l.getD i []) l[q]) (l.length + 1) 0 l.length = q := by
 refine tZ _ l.length q (fun i hi => ?_) (fun i hi hn => ?_) _ _ _ (Nat.zero_le _) (by omega) (ar _) (by omega)
 · rw [kF, List.getD_eq_getElem?_getD, List.getElem?_eq_getElem (by omega), Option.getD_some]
   exact List.pairwise_iff_getElem.1 h i q (by omega) hq hi
 · rw [kF, List.getD_eq_getElem?_getD, List.getElem?_eq_getElem hn, Option.getD_some]
   by_cases c : i = q
   · subst c
     rw [iK]
     decide
   · rw [kL (List.pairwise_iff_getElem.1 h q i hq hn (by omega))]
     decide
section
variable (l : List (List Int)) (e : List S63) (hm : ik l e)
include hm
section
variable (R : List Int) (hR : R.length ≤ 1048576) (hx : ∀ x ∈ R, 0 ≤ x ∧ x < (l.length : Int))
include hR hx
end
end
def dR (a : Int) (e : List S63) (l : List Int) : Bool := bE 0 (wrap64 (a - 1)) none l && cT e l
def fZ (a : Int) (e : List S63) (x y : List Int) : Bool := bH a e && (dR a e x && dR a e y)
theorem nw (a : Int) (e : List S63) (l : List Int) (he : e.length ≤ 1048576) (hl : l.length ≤ 1048576) (hg : bH a e = true) : Ev (fun k => f8 k a e l) (dR a e l) := by
 have h1 := dF hg
 have := rh a e l he hl
 rw [sE e l _ (fun s hs => (h1.2.2 s hs).2.1)] at this
 exact this
theorem lN {n : Nat} {e : List S63} {l : List Int} (hn : n ≤ 8) (h : dR (n : Int) e l = true) : SetN n l ∧ cT e l = true := by
 unfold dR at h
 rw [Bool.and_eq_true, cL (by omega) (by omega)] at h
 exact ⟨SetN.of_ris h.1, h.2⟩
theorem ri (a : Int) (e : List S63) (x y : List Int) (he : e.length ≤ 1048576) (hx : x.length ≤ 1048576) (hy : y.length ≤ 1048576) : Ev (fun k => hG k a e x y) (fZ a e x y) := by
 unfold hG iV fZ
 by_cases hg : bH a e = true
 · rw [hg, Bool.true_and]
   refine Ev.bind (a := dR a e x) ?_ ?_
   · refine Ev.bind (mV a e he) ?_
     refine Ev.pos hg ?_
     exact Ev.bind (nw a e x he hx hg) (Ev.now _)
   · cases c : dR a e x with
     | true => exact Ev.pos rfl (Ev.bind (nw a e y he hy hg) (Ev.now _))
     | false => exact Ev.neg (by decide) (Ev.now _)
 · rw [Bool.eq_false_iff.mpr hg, Bool.false_and]
   refine Ev.bind (a := false) ?_ ?_
   · refine Ev.bind (mV a e he) ?_
     exact Ev.neg hg (Ev.now _)
   · exact Ev.neg (by decide) (Ev.now _)
theorem ol (a : Int) (e : List S63) (x y : List Int) (he : e.length ≤ 1048576) (hx : x.length ≤ 1048576) (hy : y.length ≤ 1048576) : Ev (fun k => dX k a e x y) (fZ a e x y) := by
 unfold dX fZ
 refine Ev.bind (jt _ e he) ?_
 by_cases hg : bH a e = true
 · rw [hg, Bool.true_and]
   refine Ev.pos rfl ?_
   refine Ev.bind (a := dR a e x) (mZ a e x hx hg) ?_
   cases c : dR a e x with
   | true => exact Ev.pos rfl (Ev.bind (a := dR a e y) (mZ a e y hy hg) (Ev.now _))
   | false => exact Ev.neg (by decide) (Ev.now _)
 · rw [Bool.eq_false_iff.mpr hg, Bool.false_and]
   exact Ev.neg (by decide) (Ev.now _)
end Go.Proofs.YtjgcehldepfaaaaGreat.P
