/- Forests: where nodes are as many as edges and parts no two neighbors of a node are joined around it; the rule of locked tokens tells just those that no row of slides ir. -/
import Derived.Test.YtjgcehldepfaaaaGreatForestLockedG15
import Derived.Test.YtjgcehldepfaaaaGreatForestLockedG22
import Derived.Test.YtjgcehldepfaaaaGreatForestLockedG11
import Derived.Test.YtjgcehldepfaaaaGreatForestLockedG14
import Derived.Test.YtjgcehldepfaaaaGreatForestLockedG10
import Derived.Test.YtjgcehldepfaaaaGreatForestLockedG13
import Derived.Test.YtjgcehldepfaaaaGreatForestLockedG18
import Derived.Test.YtjgcehldepfaaaaGreatForestLockedG9
import Derived.Test.YtjgcehldepfaaaaGreatForestLockedG19
import Derived.Test.YtjgcehldepfaaaaGreatForestLockedG20
namespace Go.Proofs.YtjgcehldepfaaaaGreat.FPure
/-- Next to each other by an edge of the list. -/
def Adj (E : List (Int × Int)) (x y : Int) : Prop := (x, y) ∈ E ∨ (y, x) ∈ E
inductive Conn (E : List (Int × Int)) : Int → Int → Prop
  | refl (x : Int) : Conn E x x
  | step {x y z : Int} : Conn E x y → Adj E y z → Conn E x z
/-- There is a way that avoids u. -/
inductive Av (E : List (Int × Int)) (u : Int) : Int → Int → Prop
  | refl {x : Int} : x ≠ u → Av E u x x
  | step {x y z : Int} : Av E u x y → Adj E y z → z ≠ u → Av E u x z
theorem Adj.symm {E : List (Int × Int)} {x y : Int} (h : Adj E x y) : Adj E y x := h.elim .inr .inl
theorem Conn.trans {E : List (Int × Int)} {x y z : Int} (h : Conn E x y) (k : Conn E y z) : Conn E x z := by
  induction k with
  | refl => exact h
  | step _ a ih => exact .step ih a
theorem Conn.symm {E : List (Int × Int)} {x y : Int} (h : Conn E x y) : Conn E y x := by
  induction h with
  | refl => exact .refl _
  | step _ a ih => exact (Conn.step (.refl _) a.symm).trans ih
theorem Av.trans {E : List (Int × Int)} {u x y z : Int} (h : Av E u x y) (k : Av E u y z) : Av E u x z := by
  induction k with
  | refl => exact h
  | step _ a n ih => exact .step ih a n
theorem Av.ne {E : List (Int × Int)} {u x y : Int} (h : Av E u x y) : y ≠ u := by cases h <;> assumption
theorem Av.ne0 {E : List (Int × Int)} {u x y : Int} (h : Av E u x y) : x ≠ u := by
  induction h with
  | refl h => exact h
  | step _ _ _ ih => exact ih
theorem Av.symm {E : List (Int × Int)} {u x y : Int} (h : Av E u x y) : Av E u y x := by
  induction h with
  | refl h => exact .refl h
  | step h a n ih => exact (Av.step (.refl n) a.symm h.ne).trans ih
theorem subset_len : ∀ {V L : List Int}, V.Nodup → (∀ v ∈ V, v ∈ L) → V.length ≤ L.length
  | [], _, _, _ => Nat.zero_le _
  | v :: V, L, hn, hs => by
    rw [List.nodup_cons] at hn
    have h1 : v ∈ L := hs v (.head _)
    have h2 := subset_len (V := V) (L := L.erase v) hn.2 (fun z hz => (List.mem_erase_of_ne (fun e => hn.1 (by rw [← e]; exact hz))).2 (hs z (.tail _ hz)))
    rw [List.length_erase_of_mem h1] at h2
    have := List.length_pos_of_mem h1
    rw [List.length_cons]
    omega
theorem sE {x y : Int} (h : Conn [] x y) : x = y := by
  induction h with
  | refl => rfl
  | step _ a _ => rcases a with a | a <;> cases a
theorem jQ {a b : Int} {E : List (Int × Int)} {x y : Int} (h : Conn ((a, b) :: E) x y) : Conn E x y ∨ ((Conn E x a ∨ Conn E x b) ∧ (Conn E a y ∨ Conn E b y)) := by
  induction h with
  | refl => exact .inl (.refl _)
  | @step y z _ k ih =>
    have k2 : Adj E y z ∨ (y = a ∧ z = b) ∨ (y = b ∧ z = a) := by
      rcases k with k | k <;> rcases List.mem_cons.1 k with e | e
      · injection e with e1 e2; exact .inr (.inl ⟨e1, e2⟩)
      · exact .inl (.inl e)
      · injection e with e1 e2; exact .inr (.inr ⟨e2, e1⟩)
      · exact .inl (.inr e)
    rcases k2 with k2 | ⟨rfl, rfl⟩ | ⟨rfl, rfl⟩
    · rcases ih with ih | ⟨h1, h2⟩
      · exact .inl (.step ih k2)
      · exact .inr ⟨h1, h2.imp (.step · k2) (.step · k2)⟩
    · rcases ih with ih | ⟨h1, _⟩
      · exact .inr ⟨.inl ih, .inr (.refl _)⟩
      · exact .inr ⟨h1, .inr (.refl _)⟩
    · rcases ih with ih | ⟨h1, _⟩
      · exact .inr ⟨.inr ih, .inl (.refl _)⟩
      · exact .inr ⟨h1, .inl (.refl _)⟩
/-- Nodes are at most as many as edges and parts m6. -/
theorem mt : ∀ (E : List (Int × Int)) (V L : List Int), V.Nodup → (∀ v ∈ V, ∃ r ∈ L, Conn E v r) → V.length ≤ E.length + L.length
  | [], V, L, hn, hc => by
    rw [List.length_nil, Nat.zero_add]
    refine subset_len hn (fun v hv => ?_)
    obtain ⟨r, hr, h⟩ := hc v hv
    rw [sE h]; exact hr
  | (a, b) :: E, V, L, hn, hc => by
    rw [List.length_cons]
    have key : ∃ c, ∀ v ∈ V, ∃ r ∈ c :: L, Conn E v r := by
      by_cases h1 : ∃ r ∈ L, Conn E a r
      · obtain ⟨r0, hr0, h0⟩ := h1
        refine ⟨b, fun v hv => ?_⟩
        obtain ⟨r, hr, h⟩ := hc v hv
        rcases jQ h with h | ⟨h | h, _⟩
        · exact ⟨r, .tail _ hr, h⟩
        · exact ⟨r0, .tail _ hr0, h.trans h0⟩
        · exact ⟨b, .head _, h⟩
      · by_cases h2 : ∃ r ∈ L, Conn E b r
        · obtain ⟨r0, hr0, h0⟩ := h2
          refine ⟨a, fun v hv => ?_⟩
          obtain ⟨r, hr, h⟩ := hc v hv
          rcases jQ h with h | ⟨h | h, _⟩
          · exact ⟨r, .tail _ hr, h⟩
          · exact ⟨a, .head _, h⟩
          · exact ⟨r0, .tail _ hr0, h.trans h0⟩
        · refine ⟨a, fun v hv => ?_⟩
          obtain ⟨r, hr, h⟩ := hc v hv
          rcases jQ h with h | ⟨_, h | h⟩
          · exact ⟨r, .tail _ hr, h⟩
          · exact absurd ⟨r, hr, h⟩ h1
          · exact absurd ⟨r, hr, h⟩ h2
    obtain ⟨c, hcv⟩ := key
    have := mt E V (c :: L) hn hcv
    rw [List.length_cons] at this
    omega
/-- Where nodes are as many as edges and parts, no two neighbors of a node are joined around it. -/
theorem key_of {E : List (Int × Int)} {V L : List Int} (hn : V.Nodup) (hc : ∀ v ∈ V, ∃ r ∈ L, Conn E v r) (hl : E.length + L.length ≤ V.length) {u a b : Int} (ha : Adj E u a) (hb : Adj E u b) (hab : Av E u a b) : a = b := by
  refine Classical.byContradiction fun hne => ?_
  have hau := hab.ne0
  obtain ⟨e, he, hd⟩ : ∃ e, e ∈ E ∧ (e = (u, a) ∨ e = (a, u)) := by
    rcases ha with h | h
    · exact ⟨_, h, .inl rfl⟩
    · exact ⟨_, h, .inr rfl⟩
  have keep : ∀ {x y : Int}, Adj E x y → ¬ (x = u ∧ y = a) → ¬ (x = a ∧ y = u) → Adj (E.erase e) x y := by
    intro x y h h1 h2
    have : ∀ p q : Int, ¬ (p = u ∧ q = a) → ¬ (p = a ∧ q = u) → (p, q) ∈ E → (p, q) ∈ E.erase e := by
      intro p q g1 g2 hpq
      refine (List.mem_erase_of_ne (fun h3 => ?_)).2 hpq
      rw [← h3] at hd
      rcases hd with hd | hd <;> injection hd with d1 d2
      · exact g1 ⟨d1, d2⟩
      · exact g2 ⟨d1, d2⟩
    rcases h with h | h
    · exact .inl (this _ _ h1 h2 h)
    · exact .inr (this _ _ (fun g => h2 ⟨g.2, g.1⟩) (fun g => h1 ⟨g.2, g.1⟩) h)
  have way : ∀ {x y : Int}, Av E u x y → Conn (E.erase e) x y := by
    intro x y h
    induction h with
    | refl => exact .refl _
    | @step y z h k n ih => exact .step ih (keep k (fun g => h.ne g.1) (fun g => n g.2))
  have hbe : Adj (E.erase e) u b := keep hb (fun g => hne g.2.symm) (fun g => hau g.1.symm)
  have hua : Conn (E.erase e) u a := (Conn.step (.refl _) hbe).trans (way hab.symm)
  have all : ∀ {x y : Int}, Conn E x y → Conn (E.erase e) x y := by
    intro x y h
    induction h with
    | refl => exact .refl _
    | @step y z _ k ih =>
      by_cases h1 : y = u ∧ z = a
      · rw [h1.1] at ih; rw [h1.2]; exact ih.trans hua
      · by_cases h2 : y = a ∧ z = u
        · rw [h2.1] at ih; rw [h2.2]; exact ih.trans hua.symm
        · exact .step ih (keep k h1 h2)
  have := mt (E.erase e) V L hn (fun v hv => by obtain ⟨r, hr, h⟩ := hc v hv; exact ⟨r, hr, all h⟩)
  rw [List.length_erase_of_mem he] at this
  have := List.length_pos_of_mem he
  omega
section
variable {E : List (Int × Int)}
/-- No two neighbors of a node are joined around it. -/
def Tree (E : List (Int × Int)) : Prop := ∀ u a b, Adj E u a → Adj E u b → Av E u a b → a = b
/-- From x away from g: what lies behind a neighbor u and its neighbor w lies there too. -/
theorem jc (hT : Tree E) (hI : ∀ z, ¬ Adj E z z) {x g u w y : Int} (hg : Adj E g x ∨ ∀ z, ¬ Adj E z g) (hxg : x ≠ g) (hxu : Adj E x u) (hug : u ≠ g) (huw : Adj E u w) (hwx : w ≠ x) (h : Av E u w y) : Av E g x y := by
  have hux : x ≠ u := fun e => hI u (by rw [e] at hxu; exact hxu)
  induction h with
  | refl hw =>
    refine .step (.step (.refl hxg) hxu hug) huw ?_
    rintro rfl
    rcases hg with hg | hg
    · exact hwx (hT u w x huw hxu.symm (.step (.refl hw) hg hux))
    · exact hg _ huw
  | @step y z h k n ih =>
    refine .step ih k ?_
    rintro rfl
    rcases hg with hg | hg
    · exact hwx (hT u w x huw hxu.symm (.step (.step h k n) hg hux))
    · exact hg _ k

/-- The token of x is locked, seen away from g: each neighbor has another neighbor with such a token. -/
def St (E : List (Int × Int)) (S : Int → Prop) : Nat → Int → Int → Prop
  | 0, _, _ => False
  | n + 1, x, g => ∀ v, Adj E x v → v ≠ g → ∃ w, Adj E v w ∧ w ≠ x ∧ S w ∧ St E S n w v
def Nst (E : List (Int × Int)) (S : Int → Prop) : Nat → Int → Int → Prop
  | 0, _, _ => False
  | n + 1, x, g => ∃ v, Adj E x v ∧ v ≠ g ∧ ∀ w, Adj E v w → w ≠ x → S w → Nst E S n w v
def Ind (E : List (Int × Int)) (S : Int → Prop) : Prop := ∀ x y, S x → S y → ¬ Adj E x y
def Slide (E : List (Int × Int)) (S T : Int → Prop) : Prop := ∃ a b, S a ∧ ¬ S b ∧ Adj E a b ∧ (∀ z, T z ↔ (S z ∧ z ≠ a) ∨ z = b) ∧ Ind E T
inductive Reach (E : List (Int × Int)) (S : Int → Prop) : (Int → Prop) → Prop
  | refl : Reach E S S
  | step {T U : Int → Prop} : Reach E S T → Slide E T U → Reach E S U
theorem Reach.trans {S T U : Int → Prop} (h : Reach E S T) (k : Reach E T U) : Reach E S U := by
  induction k with
  | refl => exact h
  | step _ s ih => exact .step ih s
theorem Reach.ind {S T : Int → Prop} (h : Reach E S T) (hS : Ind E S) : Ind E T := by
  cases h with
  | refl => exact hS
  | step _ s => obtain ⟨_, _, _, _, _, _, h⟩ := s; exact h
/-- The tokens that a locked one leans on. -/
inductive Lean1 (E : List (Int × Int)) (S : Int → Prop) (x0 g0 : Int) : Int → Int → Prop
  | root : (∃ n, St E S n x0 g0) → Lean1 E S x0 g0 x0 g0
  | step {a g v w : Int} : Lean1 E S x0 g0 a g → Adj E a v → v ≠ g → Adj E v w → w ≠ a → S w → (∃ n, St E S n w v) → Lean1 E S x0 g0 w v
theorem Lean1.st {S : Int → Prop} {x0 g0 w v : Int} (h : Lean1 E S x0 g0 w v) : ∃ n, St E S n w v := by cases h <;> assumption
/-- What is locked by the rule dG. -/
theorem dG {S T : Int → Prop} {x0 g0 : Int} (hg : ∀ z, ¬ Adj E z g0) (hx : S x0) (hn : ∃ n, St E S n x0 g0) (h : Reach E S T) : T x0 := by
  have key : ∀ T, Reach E S T → ∀ w v, Lean1 E S x0 g0 w v → T w := by
    intro T h
    induction h with
    | refl =>
      intro w v hw
      cases hw with
      | root _ => exact hx
      | step _ _ _ _ _ h _ => exact h
    | @step T U hr hs ih =>
      intro w v hw
      obtain ⟨a, b, ha, hb, hab, hU, hI⟩ := hs
      by_cases hwa : w = a
      · exfalso
        subst hwa
        by_cases hbv : b = v
        · subst hbv
          cases hw with
          | root _ => exact hg _ hab
          | @step a' g' _ _ h1 h2 h3 h4 h5 h6 h7 =>
            have := ih _ _ h1
            exact hI a' b ((hU _).2 (.inl ⟨this, fun e => h5 e.symm⟩)) ((hU _).2 (.inr rfl)) h2
        · obtain ⟨n, hst⟩ := hw.st
          cases n with
          | zero => exact hst
          | succ n =>
            obtain ⟨w', h1, h2, h3, h4⟩ := hst b hab hbv
            have := ih _ _ (.step hw hab hbv h1 h2 h3 ⟨n, h4⟩)
            exact hI b w' ((hU _).2 (.inr rfl)) ((hU _).2 (.inl ⟨this, h2⟩)) h1
      · exact (hU _).2 (.inl ⟨ih _ _ hw, hwa⟩)
  exact key T h x0 g0 (.root hn)
theorem lB (hT : Tree E) (hI : ∀ z, ¬ Adj E z z) {S S1 : Int → Prop} : ∀ (n : Nat) {w v : Int}, (Adj E v w ∨ ∀ z, ¬ Adj E z v) → w ≠ v → (∀ z, Av E v w z → (S1 z ↔ S z)) → Nst E S n w v → Nst E S1 n w v
  | 0, _, _, _, _, _, h => h
  | n + 1, w, v, hg, hwv, ha, h => by
    obtain ⟨u, h1, h2, h3⟩ := h
    refine ⟨u, h1, h2, fun y hy hyw hSy => ?_⟩
    have hyu : y ≠ u := fun e => hI u (by rw [e] at hy; exact hy)
    have hsub : ∀ z, Av E u y z → Av E v w z := fun z hz => jc hT hI hg hwv h1 h2 hy hyw hz
    have hSy' := (ha y (hsub y (.refl hyu))).1 hSy
    exact lB hT hI n (.inl hy) hyu (fun z hz => ha z (hsub z hz)) (h3 y hy hyw hSy')
/-- What is not locked by the rule can be moved, by slides behind it alone. -/
theorem ir (hT : Tree E) (hI : ∀ z, ¬ Adj E z z) {V : List Int} (hV : ∀ x y, Adj E x y → y ∈ V) (hVn : V.Nodup) : ∀ (n : Nat) {x g : Int} {S : Int → Prop}, (Adj E g x ∨ ∀ z, ¬ Adj E z g) → x ≠ g → Nst E S n x g → S x → Ind E S →
    ∃ S', Reach E S S' ∧ ¬ S' x ∧ ∀ z, ¬ Av E g x z → (S' z ↔ S z)
  | 0, _, _, _, _, _, h, _, _ => h.elim
  | n + 1, x, g, S, hg, hxg, h, hx, hS => by
    obtain ⟨v, h1, h2, h3⟩ := h
    have hirr : ∀ {a b : Int}, Adj E a b → a ≠ b := fun h e => hI _ (by rw [e] at h; exact h)
    have part : ∀ l : List Int, l.Nodup → (∀ w ∈ l, Adj E v w ∧ w ≠ x) → ∃ S', Reach E S S' ∧ (∀ w ∈ l, ¬ S' w) ∧ ∀ z, (∀ w ∈ l, ¬ Av E v w z) → (S' z ↔ S z) := by
      intro l
      induction l with
      | nil => intro _ _; exact ⟨S, .refl, (fun w hw => by cases hw), fun z _ => Iff.rfl⟩
      | cons w l ih =>
        intro hnd hl
        rw [List.nodup_cons] at hnd
        obtain ⟨S1, r1, n1, a1⟩ := ih hnd.2 (fun y hy => hl y (.tail _ hy))
        obtain ⟨hw1, hw2⟩ := hl w (.head _)
        have hwv : w ≠ v := fun e => hirr hw1 e.symm
        have hag : ∀ z, Av E v w z → (S1 z ↔ S z) := fun z hz => a1 z (fun y hy hy2 => hnd.1 (by
          have := hT v w y hw1 (hl y (.tail _ hy)).1 (hz.trans hy2.symm)
          rw [this]; exact hy))
        by_cases hs : S1 w
        · have hsw := (hag w (.refl hwv)).1 hs
          obtain ⟨S2, r2, n2, a2⟩ := ir hT hI hV hVn n (.inl hw1) hwv (lB hT hI n (.inl hw1) hwv hag (h3 w hw1 hw2 hsw)) hs (r1.ind hS)
          refine ⟨S2, r1.trans r2, ?_, ?_⟩
          · intro y hy
            rcases List.mem_cons.1 hy with rfl | hy
            · exact n2
            · intro hy2
              refine n1 y hy ((a2 y (fun hav => hnd.1 ?_)).1 hy2)
              have := hT v w y hw1 (hl y (.tail _ hy)).1 hav
              rw [this]; exact hy
          · intro z hz
            exact (a2 z (hz w (.head _))).trans (a1 z (fun y hy => hz y (.tail _ hy)))
        · refine ⟨S1, r1, ?_, fun z hz => a1 z (fun y hy => hz y (.tail _ hy))⟩
          intro y hy
          rcases List.mem_cons.1 hy with rfl | hy
          · exact hs
          · exact n1 y hy
    open Classical in
    obtain ⟨S1, r1, n1, a1⟩ := part (V.filter fun w => decide (Adj E v w ∧ w ≠ x)) (hVn.filter _) (fun w hw => by simpa using (List.mem_filter.1 hw).2)
    have hmem : ∀ w, Adj E v w → w ≠ x → ¬ S1 w := fun w hw hwx => n1 w (List.mem_filter.2 ⟨hV v w hw, by simpa using ⟨hw, hwx⟩⟩)
    have hxv : x ≠ v := hirr h1
    have hs1x : S1 x := (a1 x (fun w hw hav => by
      have hw2 : Adj E v w ∧ w ≠ x := by simpa using (List.mem_filter.1 hw).2
      exact hw2.2 (hT v w x hw2.1 h1.symm hav))).2 hx
    have hI1 := r1.ind hS
    have hv1 : ¬ S1 v := fun hv => hI1 x v hs1x hv h1
    refine ⟨fun z => (S1 z ∧ z ≠ x) ∨ z = v, .step r1 ⟨x, v, hs1x, hv1, h1, fun z => Iff.rfl, ?_⟩, ?_, ?_⟩
    · intro p q hp hq hpq
      rcases hp with ⟨hp, hpx⟩ | rfl
      · rcases hq with ⟨hq, hqx⟩ | rfl
        · exact hI1 p q hp hq hpq
        · exact hmem p hpq.symm hpx hp
      · rcases hq with ⟨hq, hqx⟩ | rfl
        · exact hmem q hpq hqx hq
        · exact hI _ hpq
    · rintro (⟨_, h⟩ | h)
      · exact h rfl
      · exact hxv h
    · intro z hz
      have hzv : z ≠ v := by rintro rfl; exact hz (.step (.refl hxg) h1 h2)
      have hzx : z ≠ x := by rintro rfl; exact hz (.refl hxg)
      have := a1 z (fun w hw hav => by
        have hw2 : Adj E v w ∧ w ≠ x := by simpa using (List.mem_filter.1 hw).2
        exact hz (jc hT hI hg hxg h1 h2 hw2.1 hw2.2 hav))
      constructor
      · rintro (⟨h, _⟩ | h)
        · exact this.1 h
        · exact absurd h hzv
      · intro h; exact .inl ⟨this.2 h, hzx⟩
/-- The rule tells what is locked: in a tree, from an independent set. -/
theorem rule {V : List Int} (hT : Tree E) (hI : ∀ z, ¬ Adj E z z) (hV : ∀ x y, Adj E x y → y ∈ V) (hVn : V.Nodup) {S : Int → Prop} {x g : Int} (hg : ∀ z, ¬ Adj E z g) (hxg : x ≠ g) (hx : S x) (hS : Ind E S) :
    ((∃ n, St E S n x g) → ∀ T, Reach E S T → T x) ∧ ((∃ n, Nst E S n x g) → ∃ T, Reach E S T ∧ ¬ T x) := by
  refine ⟨fun h T hr => dG hg hx h hr, fun h => ?_⟩
  obtain ⟨n, h⟩ := h
  obtain ⟨S', h1, h2, _⟩ := ir hT hI hV hVn n (.inr hg) hxg h hx hS
  exact ⟨S', h1, h2⟩
open Classical in
/-- What lies behind x away from g, counted. -/
noncomputable def cnt (E : List (Int × Int)) (V : List Int) (x g : Int) : Nat := (V.filter fun z => decide (Av E g x z)).length
theorem sh {V : List Int} {p q : Int → Bool} (h : ∀ z ∈ V, p z = true → q z = true) {x : Int} (hx : x ∈ V) (h1 : q x = true) (h2 : p x = false) : (V.filter p).length < (V.filter q).length := by
  induction V with
  | nil => cases hx
  | cons y V ih =>
    have hle : (V.filter p).length ≤ (V.filter q).length := by
      clear ih hx
      induction V with
      | nil => exact Nat.le.refl
      | cons z V ih =>
        have ih2 := ih (fun t ht => by
          rcases List.mem_cons.1 ht with rfl | ht
          · exact h t (.head _)
          · exact h t (.tail _ (.tail _ ht)))
        have hz := h z (.tail _ (.head _))
        rw [List.filter_cons, List.filter_cons]
        cases hp : p z
        · cases hq : q z <;> simp <;> omega
        · rw [hz hp]; simpa using ih2
    have hy := h y (.head _)
    rw [List.filter_cons, List.filter_cons]
    rcases List.mem_cons.1 hx with rfl | hx
    · rw [h1, h2]; simp; omega
    · have ih2 := ih (fun z hz => h z (.tail _ hz)) hx
      cases hp : p y
      · cases hq : q y <;> simp <;> omega
      · rw [hy hp]; simpa using ih2
open Classical in
theorem cnt_lt {V : List Int} (hT : Tree E) (hI : ∀ z, ¬ Adj E z z) {x g u w : Int} (hxV : x ∈ V) (hg : Adj E g x ∨ ∀ z, ¬ Adj E z g) (hxg : x ≠ g) (hxu : Adj E x u) (hug : u ≠ g) (huw : Adj E u w) (hwx : w ≠ x) : cnt E V w u < cnt E V x g := by
  refine sh (x := x) (fun z _ hz => ?_) hxV ?_ ?_
  · simp only [decide_eq_true_eq] at hz ⊢
    exact jc hT hI hg hxg hxu hug huw hwx hz
  · simp only [decide_eq_true_eq]
    exact .refl hxg
  · simp only [decide_eq_false_iff_not]
    exact fun h => hwx (hT u w x huw hxu.symm h)
end
end Go.Proofs.YtjgcehldepfaaaaGreat.FPure
namespace Go.Proofs.YtjgcehldepfaaaaGreat.P
open Go.RowKit YtjgcehldepfaaaaGreatW.PrintWords Go.Proofs.YtjgcehldepfaaaaGreatW.PrintLast Go.Proofs.YtjgcehldepfaaaaGreatW.PrintMore
set_option linter.unusedVariables false
set_option linter.unusedSimpArgs false
theorem o3 (l : List Int) (hl : l.length ≤ 1048576) (x : Int) (hx : x ∉ l) (d : Nat) : ∀ (m : Nat), l.length - m = d → m ≤ l.length → (∀ y ∈ l.take m, y < x) → ∃ q, q ≤ l.length ∧ (∀ y ∈ l.take q, y < x) ∧ (∀ h : q < l.length, x < l[q]) ∧ Ev (fun k => dJ k l x (m : Int)) (l.take q ++ [x] ++ l.drop q) := by
  induction d with
  | zero =>
    intro m h0 h1 h2
    refine ⟨m, h1, h2, fun h => by omega, ?_⟩
    refine Ev.step (fun k => by rw [dJ]) ?_
    refine Ev.neg (by omega) ?_
    refine Ev.bindo rfl ?_
    refine Ev.pos (by omega) ?_
    refine Ev.pos (by omega) ?_
    rw [Int.toNat_natCast]
    have hl1 : (l.take m).length ≤ l.length := by rw [List.length_take]; omega
    have hl2 : (l.drop m).length ≤ l.length := by rw [List.length_drop]; omega
    refine Ev.pos (by simp only [List.length_nil]; omega) ?_
    refine Ev.bindo rfl ?_
    refine Ev.bindo rfl ?_
    refine Ev.pos (by simp only [List.nil_append, List.length_singleton]; omega) ?_
    refine Ev.bindo rfl ?_
    refine Ev.pos (by simp only [List.nil_append, List.length_append, List.length_singleton]; omega) ?_
    exact Ev.now _
  | succ d ih =>
    intro m h0 h1 h2
    have hm : m < l.length := by omega
    have hne : l[m] ≠ x := fun e => hx (e ▸ List.getElem_mem hm)
    by_cases c : l[m] < x
    · obtain ⟨q, q1, q2, q3, q4⟩ := ih (m + 1) (by omega) (by omega) (fun y hy => by
        rw [List.take_add_one, List.getElem?_eq_getElem hm] at hy
        rcases List.mem_append.1 hy with hy | hy
        · exact h2 y hy
        · rw [show y = l[m] by simpa using hy]; exact c)
      rw [← aH hm (by omega)] at q4
      refine ⟨q, q1, q2, q3, ?_⟩
      refine Ev.step (fun k => by rw [dJ]) ?_
      refine Ev.pos (by omega) ?_
      refine Ev.pos (by omega) ?_
      rw [aK l m hm]
      refine Ev.pos c ?_
      exact q4
    · refine ⟨m, h1, h2, fun h => by omega, ?_⟩
      refine Ev.step (fun k => by rw [dJ]) ?_
      refine Ev.pos (by omega) ?_
      refine Ev.pos (by omega) ?_
      rw [aK l m hm]
      refine Ev.neg c ?_
      refine Ev.neg hne ?_
      refine Ev.bindo rfl ?_
      refine Ev.pos (by omega) ?_
      rw [Int.toNat_natCast]
      have hl1 : (l.take m).length ≤ l.length := by rw [List.length_take]; omega
      have hl2 : (l.drop m).length ≤ l.length := by rw [List.length_drop]; omega
      refine Ev.pos (by simp only [List.length_nil]; omega) ?_
      refine Ev.bindo rfl ?_
      refine Ev.bindo rfl ?_
      refine Ev.pos (by simp only [List.nil_append, List.length_singleton]; omega) ?_
      refine Ev.bindo rfl ?_
      refine Ev.pos (by simp only [List.nil_append, List.length_append, List.length_singleton]; omega) ?_
      exact Ev.now _
/-- What the turned set is. -/
theorem lq (l : List Int) (hl : l.length ≤ 1048575) (hp : l.Pairwise (· < ·)) (x : Int) (hx : x ∉ l) : ∃ R, Ev (fun k => ia k l x) R ∧ R.Pairwise (· < ·) ∧ ∀ y, y ∈ R ↔ y ∈ l ∨ y = x := by
  obtain ⟨q, q1, q2, q3, q4⟩ := o3 l (by omega) x hx (l.length - 0) 0 rfl (Nat.zero_le _) (fun y hy => by simp at hy)
  simp only [Int.natCast_zero] at q4
  refine ⟨l.take q ++ [x] ++ l.drop q, q4, ?_, fun y => ?_⟩
  · have hd : ∀ y ∈ l.drop q, x < y := fun y hy => by
      have hq : q < l.length := by
        rcases Nat.lt_or_ge q l.length with h | h
        · exact h
        · rw [List.drop_eq_nil_of_le h] at hy; cases hy
      have h3 := q3 hq
      have h4 := hp.sublist (List.drop_sublist q l)
      rw [List.drop_eq_getElem_cons hq] at hy h4
      rcases List.mem_cons.1 hy with rfl | hy
      · exact h3
      · have := (List.pairwise_cons.1 h4).1 y hy; omega
    rw [List.append_assoc, List.pairwise_append]
    refine ⟨hp.sublist (List.take_sublist q l), ?_, fun a ha b hb => ?_⟩
    · rw [List.singleton_append, List.pairwise_cons]
      exact ⟨hd, hp.sublist (List.drop_sublist q l)⟩
    · have h1 := q2 a ha
      rw [List.singleton_append] at hb
      rcases List.mem_cons.1 hb with rfl | hb
      · exact h1
      · have := hd b hb; omega
  · have e : y ∈ l ↔ y ∈ l.take q ∨ y ∈ l.drop q := by rw [← List.mem_append, List.take_append_drop]
    rw [List.mem_append, List.mem_append, List.mem_singleton, e]
    constructor
    · rintro ((h | h) | h)
      · exact .inl (.inl h)
      · exact .inr h
      · exact .inl (.inr h)
    · rintro ((h | h) | h)
      · exact .inl (.inl h)
      · exact .inr h
      · exact .inl (.inr h)
/-- The neighbours of each node. -/
def aC (n : Nat) (e : List S63) : List (List Int) := (List.range n).map fun (x : Nat) => bn e (x : Int) n 0
theorem bW (n : Nat) (e : List S63) : (aC n e).length = n := by simp [aC]
theorem gw (n : Nat) (e : List S63) (i : Nat) (hi : i < n) : (aC n e)[i]'(by rw [bW]; exact hi) = bn e (i : Int) n 0 := by simp [aC]
theorem pu (l : List S63) (x : Int) (d : Nat) : ∀ y, ∀ z ∈ bn l x d y, y ≤ z ∧ z < y + (d : Int) := by
  induction d with
  | zero => intro y z hz; simp [bn] at hz
  | succ d ih =>
    intro y z hz
    rw [bn] at hz
    rcases List.mem_append.1 hz with h | h
    · split at h
      · rw [List.mem_singleton.1 h]; omega
      · simp at h
    · have := ih (y + 1) z h
      omega
theorem kR (n : Nat) (e : List S63) : di (aC n e) ∧ ∀ i, (al (aC n e) i).length ≤ 1048576 + n := by
  constructor
  · intro i h0 h1 j hj
    rw [bW] at h1 ⊢
    obtain ⟨m, rfl⟩ := Int.eq_ofNat_of_zero_le h0
    rw [gx _ m (by rw [bW]; omega), gw n e m (by omega)] at hj
    have := pu e _ _ _ _ hj
    omega
  · intro i
    by_cases h : i.toNat < n
    · have e1 : al (aC n e) i = bn e (i.toNat : Int) n 0 := by
        have := gx (aC n e) i.toNat (by rw [bW]; exact h)
        rw [gw n e i.toNat h] at this
        have e2 : al (aC n e) i = al (aC n e) (i.toNat : Int) := by unfold al; rw [Int.toNat_natCast]
        rw [e2, this]
      rw [e1]
      have := iq e (i.toNat : Int) n 0
      omega
    · have e1 : al (aC n e) i = [] := by
        unfold al
        rw [List.getD_eq_getElem?_getD, List.getElem?_eq_none (by rw [bW]; omega)]
        rfl
      rw [e1]
      exact Nat.zero_le _
section
variable (n : Nat) (hn : n ≤ 8) (e : List S63) (he : e.length ≤ 1048576)
include hn he
theorem oE (hu : ∀ s ∈ e, s.f0 < s.f1) : Ev (fun k => iN k (n : Int) e) (aC n e) := by
  have key : ∀ (d i : Nat) (acc : List (List Int)), n - i = d → i ≤ n → acc.length ≤ i → Ev (fun k => dD k acc (n : Int) (i : Int) (n : Int) e) (acc ++ (aC n e).drop i) := by
    intro d
    induction d with
    | zero =>
      intro i acc h0 h1 h2
      rw [List.drop_eq_nil_of_le (by rw [bW]; omega), List.append_nil]
      refine Ev.step (fun k => by rw [dD]) ?_
      exact Ev.neg (by omega) (Ev.now _)
    | succ d ih =>
      intro i acc h0 h1 h2
      have hi : i < n := by omega
      rw [List.drop_eq_getElem_cons (by rw [bW]; exact hi), gw n e i hi]
      refine Ev.step (fun k => by rw [dD]) ?_
      refine Ev.pos (by omega) ?_
      have hnb := po (n : Int) e (i : Int) he (by omega) hu
      rw [Int.toNat_natCast] at hnb
      refine Ev.bind hnb ?_
      refine Ev.pos (by omega) ?_
      rw [aH hi (by omega)]
      have := ih (i + 1) (acc ++ [bn e (i : Int) n 0]) (by omega) (by omega) (by rw [List.length_append, List.length_singleton]; omega)
      rw [List.append_assoc] at this
      exact this
  have := key n 0 [] (by omega) (Nat.zero_le _) (Nat.zero_le _)
  rw [List.drop_zero, List.nil_append] at this
  exact this
end
theorem lE (l : List S63) (x : Int) (d : Nat) : ∀ y z, z ∈ bn l x d y ↔ (y ≤ z ∧ z < y + (d : Int)) ∧ aW l x z = true := by
  induction d with
  | zero => intro y z; simp only [bn, List.not_mem_nil, false_iff]; omega
  | succ d ih =>
    intro y z
    rw [bn, List.mem_append, ih (y + 1) z]
    by_cases c : aW l x y = true
    · rw [if_pos c, List.mem_singleton]
      constructor
      · rintro (rfl | h)
        · exact ⟨by omega, c⟩
        · exact ⟨by omega, h.2⟩
      · intro h
        by_cases e : z = y
        · exact .inl e
        · exact .inr ⟨by omega, h.2⟩
    · rw [if_neg c]
      constructor
      · rintro (h | h)
        · simp at h
        · exact ⟨by omega, h.2⟩
      · intro h
        by_cases e : z = y
        · subst e; exact absurd h.2 c
        · exact .inr ⟨by omega, h.2⟩
theorem rc (e : List S63) (x y : Int) : aW e x y = aW e y x := by
  unfold aW
  refine fh e _ _ (fun s _ => ?_)
  rw [Bool.or_comm]
theorem fG (n : Nat) (e : List S63) {a b : Int} (h0 : 0 ≤ a) (h1 : a < (n : Int)) : b ∈ al (aC n e) a ↔ (0 ≤ b ∧ b < (n : Int)) ∧ aW e a b = true := by
  obtain ⟨m, rfl⟩ := Int.eq_ofNat_of_zero_le h0
  rw [gx _ m (by rw [bW]; omega), gw n e m (by omega), lE]
  constructor
  · rintro ⟨h, h2⟩; exact ⟨by omega, h2⟩
  · rintro ⟨h, h2⟩; exact ⟨by omega, h2⟩
theorem kQ (n : Nat) (e : List S63) : fm (aC n e) := by
  intro i j i0 i1 j0 j1 h
  rw [bW] at i1 j1
  rw [fG n e i0 i1] at h
  rw [fG n e j0 j1, rc]
  exact ⟨⟨i0, i1⟩, h.2⟩
theorem ou (n : Nat) (hn : n ≤ 8) (e : List S63) (i : Int) : (al (aC n e) i).length ≤ 1048576 := by
  by_cases h : i.toNat < n
  · have e1 := gx (aC n e) i.toNat (by rw [bW]; exact h)
    rw [gw n e i.toNat h] at e1
    have e2 : al (aC n e) i = al (aC n e) (i.toNat : Int) := by unfold al; rw [Int.toNat_natCast]
    rw [e2, e1]
    have := iq e (i.toNat : Int) n 0
    omega
  · have e1 : al (aC n e) i = [] := by
      unfold al
      rw [List.getD_eq_getElem?_getD, List.getElem?_eq_none (by rw [bW]; omega)]
      rfl
    rw [e1]; exact Nat.zero_le _
section
variable {z : List (List Int)} (hn : z.length ≤ 1048576) (hz : di z) (hr : ∀ i, (al z i).length ≤ 1048576) (hs : fm z)
include hn hz hr hs
theorem o9 : Ev (fun k => gJ k z (-1)) ((bP z (fun _ => False) z.length 0).map (fun (i : Nat) => bR z (fun _ => False) (i : Int))) := by
  have hrep : ∀ k, aV false (List.replicate z.length false) k = false := fun k => by
    unfold aV; rw [List.getD_eq_getElem?_getD, List.getElem?_replicate]; split <;> rfl
  have h := o8 hn hz hr hs (fun _ => False) z.length 0 [] (List.replicate z.length false) (Nat.sub_zero _) (Nat.zero_le _) (av _) (List.length_replicate ..) (fun k _ _ => by
    rw [hrep]
    constructor
    · intro h; cases h
    · rintro (h | ⟨i', h, _⟩)
      · exact h.elim
      · omega)
  rw [List.nil_append] at h
  unfold gJ
  refine Ev.bindo rfl ?_
  refine Ev.pos (by omega) ?_
  refine Ev.pos (by rw [Int.toNat_natCast]; omega) ?_
  refine Ev.bindo rfl ?_
  refine Ev.neg (by decide) ?_
  rw [Int.toNat_natCast]
  refine Ev.step (fun k => by rw [cX]) ?_
  exact h
end
section
variable (n : Nat) (hn : n ≤ 8) (e : List S63) (he : e.length ≤ 1048576) (S : List Int) (hS : S.length ≤ 8)
include he hS
/-- One number of the set, held against all that has been reached. -/
theorem oS (i : Nat) (hi : i < S.length) (r : Int) (d : Nat) : ∀ (m : Nat) (out : List Int), out.length - m = d → m ≤ out.length → out.length ≤ 8 → out.Pairwise (· < ·) →
    ∃ out', out'.Pairwise (· < ·) ∧ (∀ y, y ∈ out' ↔ y ∈ out ∨ (y = S[i] ∧ S[i] ∉ out ∧ ∃ z ∈ out.drop m, aW e z S[i] = true)) ∧ out'.length ≤ out.length + 1 ∧
      ∀ R, Ev (fun k => du k S out' r ((i + 1 : Nat) : Int) (n : Int) e) R → Ev (fun k => de k S out r (i : Int) (m : Int) (n : Int) e) R := by
  have hw := aH hi (by omega)
  have leave : ∀ (out : List Int) (m : Nat) (R : List Int), out.length ≤ 9 → (S[i] ∈ out ∨ out.length ≤ m) → Ev (fun k => du k S out r ((i + 1 : Nat) : Int) (n : Int) e) R → Ev (fun k => de k S out r (i : Int) (m : Int) (n : Int) e) R := by
    intro out m R h9 ho hR
    refine Ev.step (fun k => by rw [de]) ?_
    by_cases c : (m : Int) < (out.length : Int)
    · refine Ev.pos c (Ev.pos (by omega) (Ev.pos (by omega) ?_))
      rw [aK S i hi]
      refine Ev.bind (fP out S[i] (by omega)) ?_
      rw [af (ho.resolve_right (by omega))]
      refine Ev.step (fun k => by rw [dI]) (Ev.neg (by decide) ?_)
      rw [hw]; exact hR
    · refine Ev.neg c ?_
      refine Ev.step (fun k => by rw [dI]) (Ev.neg (by decide) ?_)
      rw [hw]; exact hR
  induction d with
  | zero =>
    intro m out h0 h1 h8 hp
    refine ⟨out, hp, fun y => ?_, by omega, fun R hR => leave out m R (by omega) (.inr (by omega)) hR⟩
    rw [List.drop_eq_nil_of_le (by omega)]
    constructor
    · exact .inl
    · rintro (h | ⟨_, _, z, hz, _⟩)
      · exact h
      · cases hz
  | succ d ih =>
    intro m out h0 h1 h8 hp
    have hm : m < out.length := by omega
    by_cases ci : S[i] ∈ out
    · refine ⟨out, hp, fun y => ?_, by omega, fun R hR => leave out m R (by omega) (.inl ci) hR⟩
      constructor
      · exact .inl
      · rintro (h | ⟨_, h, _⟩)
        · exact h
        · exact absurd ci h
    · have go : ∀ R, Ev (fun k => dI k S out r (i : Int) (m : Int) true (n : Int) e) R → Ev (fun k => de k S out r (i : Int) (m : Int) (n : Int) e) R := by
        intro R hR
        refine Ev.step (fun k => by rw [de]) ?_
        refine Ev.pos (by omega) (Ev.pos (by omega) (Ev.pos (by omega) ?_))
        rw [aK S i hi]
        refine Ev.bind (fP out S[i] (by omega)) ?_
        rw [au ci]
        exact hR
      by_cases cn : aW e out[m] S[i] = true
      · obtain ⟨R1, p1, p2, p3⟩ := lq out (by omega) hp S[i] ci
        have hl : R1.length ≤ out.length + 1 := by
          have := FPure.subset_len (V := R1) (L := S[i] :: out) (p2.imp (fun h => by omega)) (fun v hv => by
            rcases (p3 v).1 hv with h | h
            · exact .tail _ h
            · rw [h]; exact .head _)
          simpa using this
        refine ⟨R1, p2, fun y => ?_, hl, fun R hR => go R ?_⟩
        · rw [p3]
          constructor
          · rintro (h | h)
            · exact .inl h
            · exact .inr ⟨h, ci, out[m], by rw [List.drop_eq_getElem_cons hm]; exact .head _, cn⟩
          · rintro (h | ⟨h, _⟩)
            · exact .inl h
            · exact .inr h
        · refine Ev.step (fun k => by rw [dI]) (Ev.pos rfl (Ev.pos (by omega) (Ev.pos (by omega) (Ev.pos (by omega) (Ev.pos (by omega) ?_)))))
          rw [aK S i hi, aK out m hm]
          refine Ev.bind (ip (n : Int) e out[m] S[i] he) (Ev.pos cn ?_)
          refine Ev.bind p1 ?_
          rw [aH hm (by omega)]
          exact leave R1 (m + 1) R (by omega) (.inl ((p3 _).2 (.inr rfl))) hR
      · obtain ⟨out', q1, q2, q3, q4⟩ := ih (m + 1) out (by omega) (by omega) h8 hp
        refine ⟨out', q1, fun y => ?_, q3, fun R hR => go R ?_⟩
        · rw [q2, List.drop_eq_getElem_cons hm]
          constructor
          · rintro (h | ⟨h, h2, z, hz, h3⟩)
            · exact .inl h
            · exact .inr ⟨h, h2, z, .tail _ hz, h3⟩
          · rintro (h | ⟨h, h2, z, hz, h3⟩)
            · exact .inl h
            · rcases List.mem_cons.1 hz with rfl | hz
              · exact absurd h3 cn
              · exact .inr ⟨h, h2, z, hz, h3⟩
        · refine Ev.step (fun k => by rw [dI]) (Ev.pos rfl (Ev.pos (by omega) (Ev.pos (by omega) (Ev.pos (by omega) (Ev.pos (by omega) ?_)))))
          rw [aK S i hi, aK out m hm]
          refine Ev.bind (ip (n : Int) e out[m] S[i] he) (Ev.neg cn ?_)
          rw [aH hm (by omega)]
          exact q4 R hR
/-- tR: what is next to a member is one. -/
def gq (e : List S63) (S out : List Int) : Prop := ∀ s ∈ S, s ∉ out → ∀ z ∈ out, ¬ aW e z s = true
omit he in
theorem qm {out : List Int} (hp : out.Pairwise (· < ·)) (ho : ∀ y ∈ out, y ∈ S) : out.length ≤ 8 := by
  have := FPure.subset_len (V := out) (L := S) (hp.imp (fun h => by omega)) ho
  omega
theorem oR (r : Nat) (d : Nat) : ∀ (m : Nat) (out : List Int), S.length - m = d → m ≤ S.length → out.Pairwise (· < ·) → (∀ y ∈ out, y ∈ S) →
    ∃ out', out'.Pairwise (· < ·) ∧ (∀ y ∈ out', y ∈ S) ∧ (∀ y ∈ out, y ∈ out') ∧ (∀ P : Int → Prop, (∀ z s, P z → s ∈ S → aW e z s = true → P s) → (∀ y ∈ out, P y) → ∀ y ∈ out', P y) ∧
      (out'.length ≤ out.length → ∀ s ∈ S.drop m, s ∉ out → ∀ z ∈ out, ¬ aW e z s = true) ∧
      ∀ R, Ev (fun k => dv k S out' (wrap64 ((r : Int) + 1)) (n : Int) e) R → Ev (fun k => du k S out (r : Int) (m : Int) (n : Int) e) R := by
  induction d with
  | zero =>
    intro m out h0 h1 hp ho
    refine ⟨out, hp, ho, fun y hy => hy, fun P _ h => h, fun _ s hs => ?_, fun R hR => ?_⟩
    · rw [List.drop_eq_nil_of_le (by omega)] at hs; cases hs
    · refine Ev.step (fun k => by rw [du]) (Ev.neg (by omega) ?_)
      exact hR
  | succ d ih =>
    intro m out h0 h1 hp ho
    have hm : m < S.length := by omega
    have h8 := qm S hS hp ho
    obtain ⟨o1, a1, a2, a3, a4⟩ := oS n e he S hS m hm (r : Int) (out.length - 0) 0 out rfl (Nat.zero_le _) h8 hp
    rw [List.drop_zero] at a2
    have ho1 : ∀ y ∈ o1, y ∈ S := fun y hy => by
      rcases (a2 y).1 hy with h | ⟨h, _⟩
      · exact ho y h
      · rw [h]; exact List.getElem_mem hm
    obtain ⟨o2, b1, b2, b3, b4, b5, b6⟩ := ih (m + 1) o1 (by omega) (by omega) a1 ho1
    have nd : ∀ {l : List Int}, l.Pairwise (· < ·) → l.Nodup := fun h => h.imp (fun h => by omega)
    have l1 : out.length ≤ o1.length := FPure.subset_len (nd hp) (fun y hy => (a2 y).2 (.inl hy))
    have l2 : o1.length ≤ o2.length := FPure.subset_len (nd a1) (fun y hy => b3 y hy)
    refine ⟨o2, b1, b2, fun y hy => b3 y ((a2 y).2 (.inl hy)), fun P hP h => b4 P hP (fun y hy => ?_), fun hle s hs hso z hz hh => ?_, fun R hR => ?_⟩
    · rcases (a2 y).1 hy with h2 | ⟨h2, _, z, hz, h3⟩
      · exact h y h2
      · rw [h2]; exact hP z _ (h z hz) (List.getElem_mem hm) h3
    · have same : ∀ y, y ∈ o1 → y ∈ out := fun y hy => by
        refine Classical.byContradiction fun hn => ?_
        have := FPure.subset_len (V := y :: out) (L := o1) (List.nodup_cons.2 ⟨hn, nd hp⟩) (fun v hv => by
          rcases List.mem_cons.1 hv with rfl | hv
          · exact hy
          · exact (a2 v).2 (.inl hv))
        rw [List.length_cons] at this
        omega
      rw [List.drop_eq_getElem_cons hm] at hs
      rcases List.mem_cons.1 hs with rfl | hs
      · exact hso (same _ ((a2 _).2 (.inr ⟨rfl, hso, z, hz, hh⟩)))
      · exact b5 (by omega) s hs (fun h => hso (same s h)) z ((a2 z).2 (.inl hz)) hh
    · refine Ev.step (fun k => by rw [du]) (Ev.pos (by omega) ?_)
      have := a4 R (b6 R hR)
      simpa only [Int.natCast_zero] using this
theorem oQ (x : Int) (d : Nat) : ∀ (m : Nat) (out : List Int), S.length - m = d → m ≤ S.length → out.Pairwise (· < ·) → (∀ y ∈ out, y ∈ S) → x ∈ out → (m + 1 ≤ out.length ∨ gq e S out) →
    (∀ P : Int → Prop, (∀ z s, P z → s ∈ S → aW e z s = true → P s) → P x → ∀ y ∈ out, P y) →
    ∃ R, R.Pairwise (· < ·) ∧ (∀ y ∈ R, y ∈ S) ∧ x ∈ R ∧ gq e S R ∧ (∀ P : Int → Prop, (∀ z s, P z → s ∈ S → aW e z s = true → P s) → P x → ∀ y ∈ R, P y) ∧ Ev (fun k => dv k S out (m : Int) (n : Int) e) R := by
  have nd : ∀ {l : List Int}, l.Pairwise (· < ·) → l.Nodup := fun h => h.imp (fun h => by omega)
  induction d with
  | zero =>
    intro m out h0 h1 hp ho hx hc hm
    have hl := FPure.subset_len (nd hp) ho
    refine ⟨out, hp, ho, hx, hc.resolve_left (by omega), hm, ?_⟩
    exact Ev.step (fun k => by rw [dv]) (Ev.neg (by omega) (Ev.now _))
  | succ d ih =>
    intro m out h0 h1 hp ho hx hc hm
    have hml : m < S.length := by omega
    obtain ⟨o1, a1, a2, a3, a4, a5, a6⟩ := oR n e he S hS m (S.length - 0) 0 out rfl (Nat.zero_le _) hp ho
    rw [List.drop_zero] at a5
    have hle : out.length ≤ o1.length := FPure.subset_len (nd hp) a3
    have hcl : m + 1 + 1 ≤ o1.length ∨ gq e S o1 := by
      have key : gq e S out → gq e S o1 := by
        intro hs s hsS hso z hz hh
        have sub := a4 (fun y => y ∈ out) (fun z s hz hs2 hh => Classical.byContradiction fun hn => hs s hs2 hn z hz hh) (fun y hy => hy)
        exact hs s hsS (fun h => hso (a3 s h)) z (sub z hz) hh
      by_cases c : o1.length ≤ out.length
      · exact .inr (key (a5 c))
      · rcases hc with hc | hc
        · exact .inl (by omega)
        · exact .inr (key hc)
    obtain ⟨R, r1, r2, r3, r4, r5, r6⟩ := ih (m + 1) o1 (by omega) (by omega) a1 a2 (a3 x hx) hcl (fun P hP h => a4 P hP (hm P hP h))
    refine ⟨R, r1, r2, r3, r4, r5, ?_⟩
    refine Ev.step (fun k => by rw [dv]) (Ev.pos (by omega) ?_)
    have := a6 R (by rw [aH hml (by omega)]; exact r6)
    simpa only [Int.natCast_zero] using this
end
section
variable (n : Nat) (hn : n ≤ 8) (e : List S63) (he : e.length ≤ 1048576) (S : List Int) (hSp : S.Pairwise (· < ·)) (hSr : ∀ x ∈ S, 0 ≤ x ∧ x < (n : Int))
include hn he hSp hSr
omit he hn in
theorem jl : S.length ≤ n := by
  have := FPure.subset_len (V := S) (L := (List.range n).map (fun (k : Nat) => (k : Int))) (hSp.imp (fun h => by omega)) (fun v hv => by
    have := hSr v hv
    exact List.mem_map.2 ⟨v.toNat, List.mem_range.2 (by omega), by omega⟩)
  simpa using this
/-- spec's l2Reach lists the class of a number past what is not in the set. -/
theorem oU (x : Int) (hx : x ∈ S) : Ev (fun k => gf k (n : Int) e S x) (bR (aC n e) (fun y => y ∉ S) x) := by
  have hl := jl n S hSp hSr
  have h8 : S.length ≤ 8 := by omega
  obtain ⟨R, r1, r2, r3, r4, r5, r6⟩ := oQ n e he S h8 x (S.length - 0) 0 [x] rfl (Nat.zero_le _) (by simp) (fun y hy => by rw [List.mem_singleton.1 hy]; exact hx) (.head _) (.inl (by simp)) (fun P _ h y hy => by rw [List.mem_singleton.1 hy]; exact h)
  have hlen := bW n e
  have hxr := hSr x hx
  have eq : R = bR (aC n e) (fun y => y ∉ S) x := by
    refine fo r1 (jT _ _ _) (fun y => ?_)
    rw [gU]
    constructor
    · intro hy
      have hyr := hSr y (r2 y hy)
      refine ⟨by rw [hlen]; exact hyr, ?_⟩
      have key := r5 (fun y => y ∈ S ∧ br (aC n e) (fun y => y ∉ S) x y) (fun z s hz hs hh => ⟨hs, by
        have hzr := hSr z hz.1
        exact fI hz.2 hzr.1 (by rw [hlen]; exact hzr.2) ((fG n e hzr.1 hzr.2).2 ⟨hSr s hs, hh⟩) (fun h => h hs)⟩) ⟨hx, eO x⟩ y hy
      exact key.2
    · rintro ⟨_, hr⟩
      refine hr (fun y => y ∈ R) (fun a a0 a1 ha b hb hbo => ?_) r3
      rw [hlen] at a1
      have hb2 := (fG n e a0 a1).1 hb
      have hbS : b ∈ S := Classical.byContradiction fun h => hbo h
      exact Classical.byContradiction fun hn => r4 b hbS hn a ha hb2.2
  rw [← eq]
  unfold gf
  simpa only [Int.natCast_zero] using r6
omit he in
/-- All of a part is noted. -/
theorem ol (i : Int) (out : List (List Int)) (part : List Int) (hpp : part.Pairwise (· < ·)) (hpS : ∀ y ∈ part, y ∈ S) (d : Nat) : ∀ (m : Nat) (seen : List Int), part.length - m = d → m ≤ part.length → seen.Pairwise (· < ·) → (∀ y ∈ seen, y ∈ S) → (∀ y ∈ part.drop m, y ∉ seen) → out.length ≤ 8 →
    ∃ seen', seen'.Pairwise (· < ·) ∧ (∀ y, y ∈ seen' ↔ y ∈ seen ∨ y ∈ part.drop m) ∧ ∀ R, Ev (fun k => cl k S (out ++ [part]) seen' (wrap64 (i + 1)) (n : Int) e) R → Ev (fun k => dX k S out seen i part (m : Int) (n : Int) e) R := by
  have hl := jl n S hSp hSr
  have nd : ∀ {l : List Int}, l.Pairwise (· < ·) → l.Nodup := fun h => h.imp (fun h => by omega)
  have hpl := FPure.subset_len (nd hpp) hpS
  induction d with
  | zero =>
    intro m seen h0 h1 hp hsS hd ho
    refine ⟨seen, hp, fun y => by rw [List.drop_eq_nil_of_le (by omega)]; simp, fun R hR => ?_⟩
    exact Ev.step (fun k => by rw [dX]) (Ev.neg (by omega) (Ev.pos (by omega) hR))
  | succ d ih =>
    intro m seen h0 h1 hp hsS hd ho
    have hm : m < part.length := by omega
    rw [List.drop_eq_getElem_cons hm] at hd
    have hsl := FPure.subset_len (nd hp) hsS
    obtain ⟨s1, p1, p2, p3⟩ := lq seen (by omega) hp part[m] (hd _ (.head _))
    have hnd := nd hpp
    obtain ⟨s2, q1, q2, q3⟩ := ih (m + 1) s1 (by omega) (by omega) p2 (fun y hy => by
        rcases (p3 y).1 hy with h | h
        · exact hsS y h
        · rw [h]; exact hpS _ (List.getElem_mem hm)) (fun y hy hy2 => by
        rcases (p3 y).1 hy2 with h | h
        · exact hd y (.tail _ hy) h
        · have h4 := hpp.sublist (List.drop_sublist m part)
          rw [List.drop_eq_getElem_cons hm] at h4
          have := (List.pairwise_cons.1 h4).1 y hy
          omega) ho
    refine ⟨s2, q1, fun y => ?_, fun R hR => ?_⟩
    · rw [q2, p3, List.drop_eq_getElem_cons hm, List.mem_cons]
      constructor
      · rintro ((h | h) | h)
        · exact .inl h
        · exact .inr (.inl h)
        · exact .inr (.inr h)
      · rintro (h | h | h)
        · exact .inl (.inl h)
        · exact .inl (.inr h)
        · exact .inr h
    · refine Ev.step (fun k => by rw [dX]) (Ev.pos (by omega) (Ev.pos (by omega) ?_))
      rw [aK part m hm]
      refine Ev.bind p1 ?_
      rw [aH hm (by omega)]
      exact q3 R hR
open Classical in
theorem o6 (d : Nat) : ∀ (m : Nat) (out : List (List Int)) (seen : List Int), S.length - m = d → m ≤ S.length → out.length ≤ m → seen.Pairwise (· < ·) → (∀ y, y ∈ seen ↔ y ∈ S ∧ ∃ s ∈ S.take m, br (aC n e) (fun y => y ∉ S) s y) →
    Ev (fun k => cl k S out seen (m : Int) (n : Int) e) (out ++ ((S.drop m).filter (fun x => decide (cE (aC n e) (fun y => y ∉ S) x.toNat))).map (bR (aC n e) (fun y => y ∉ S))) := by
  have hl := jl n S hSp hSr
  have hlen := bW n e
  have hz := (kR n e).1
  have hsym := kQ n e
  have nd : ∀ {l : List Int}, l.Pairwise (· < ·) → l.Nodup := fun h => h.imp (fun h => by omega)
  induction d with
  | zero =>
    intro m out seen h0 h1 ho hp hsn
    rw [List.drop_eq_nil_of_le (by omega), List.filter_nil, List.map_nil, List.append_nil]
    exact Ev.step (fun k => by rw [cl]) (Ev.neg (by omega) (Ev.now _))
  | succ d ih =>
    intro m out seen h0 h1 ho hp hsn
    have hm : m < S.length := by omega
    have hmS : S[m] ∈ S := List.getElem_mem hm
    have hmr := hSr _ hmS
    have hsl := FPure.subset_len (nd hp) (fun y hy => ((hsn y).1 hy).1)
    have htn : ((S[m].toNat : Nat) : Int) = S[m] := by omega
    have htake : ∀ {s : Int}, s ∈ S.take (m + 1) ↔ s ∈ S.take m ∨ s = S[m] := by
      intro s
      rw [List.take_add_one, List.getElem?_eq_getElem hm, List.mem_append]
      simp
    -- earlier members of the set are just those that are less
    have hbef : ∀ s, s ∈ S.take m ↔ s ∈ S ∧ s < S[m] := by
      intro s
      have h5 := hSp
      rw [← List.take_append_drop m S, List.pairwise_append] at h5
      constructor
      · intro h
        exact ⟨List.mem_of_mem_take h, h5.2.2 s h S[m] (by rw [List.drop_eq_getElem_cons hm]; exact .head _)⟩
      · rintro ⟨h, h2⟩
        rw [← List.take_append_drop m S, List.mem_append] at h
        rcases h with h | h
        · exact h
        · rw [List.drop_eq_getElem_cons hm] at h h5
          rcases List.mem_cons.1 h with h | h
          · omega
          · have := (List.pairwise_cons.1 h5.2.1).1 s h; omega
    have hrep : cE (aC n e) (fun y => y ∉ S) S[m].toNat ↔ S[m] ∉ seen := by
      unfold cE
      rw [htn]
      constructor
      · rintro ⟨_, h2⟩ h3
        obtain ⟨_, s, hs, hr⟩ := (hsn _).1 h3
        have := (hbef s).1 hs
        have hsr := hSr s this.1
        exact h2 s.toNat (by omega) (fun h => h (by rw [show ((s.toNat : Nat) : Int) = s by omega]; exact this.1)) (by rw [show ((s.toNat : Nat) : Int) = s by omega]; exact hr)
      · intro h
        refine ⟨fun h2 => h2 hmS, fun i' hi' hi2 hr => h ((hsn _).2 ⟨hmS, (i' : Int), (hbef _).2 ⟨Classical.byContradiction hi2, by omega⟩, hr⟩)⟩
    rw [List.drop_eq_getElem_cons hm, List.filter_cons]
    by_cases c : S[m] ∈ seen
    · rw [if_neg (by simpa using fun h => (hrep.1 h) c)]
      refine Ev.step (fun k => by rw [cl]) (Ev.pos (by omega) (Ev.pos (by omega) ?_))
      rw [aK S m hm]
      refine Ev.bind (fP seen S[m] (by omega)) ?_
      rw [af c]
      refine Ev.pos rfl ?_
      rw [aH hm (by omega)]
      refine ih (m + 1) out seen (by omega) (by omega) (by omega) hp (fun y => ?_)
      rw [hsn]
      constructor
      · rintro ⟨h, s, hs, hr⟩
        exact ⟨h, s, htake.2 (.inl hs), hr⟩
      · rintro ⟨h, s, hs, hr⟩
        rcases htake.1 hs with hs | rfl
        · exact ⟨h, s, hs, hr⟩
        · obtain ⟨_, s2, hs2, hr2⟩ := (hsn _).1 c
          exact ⟨h, s2, hs2, fH hr2 hr⟩
    · rw [if_pos (af (hrep.2 c)), List.map_cons]
      refine Ev.step (fun k => by rw [cl]) (Ev.pos (by omega) (Ev.pos (by omega) ?_))
      rw [aK S m hm]
      refine Ev.bind (fP seen S[m] (by omega)) ?_
      rw [au c]
      refine Ev.neg (by decide) ?_
      refine Ev.bind (oU n hn e he S hSp hSr S[m] hmS) ?_
      have hcS : ∀ y ∈ bR (aC n e) (fun y => y ∉ S) S[m], y ∈ S := fun y hy => by
        have := js hz hmr.1 (by rw [hlen]; exact hmr.2) (fun h => h hmS) ((gU _ _ _ _).1 hy).2
        exact Classical.byContradiction this.2
      obtain ⟨s2, q1, q2, q3⟩ := ol n hn e S hSp hSr (m : Int) out (bR (aC n e) (fun y => y ∉ S) S[m]) (jT _ _ _) hcS _ 0 seen rfl (Nat.zero_le _) hp (fun y hy => ((hsn y).1 hy).1) (fun y hy hy2 => by
        rw [List.drop_zero] at hy
        obtain ⟨hyS, s, hs, hr⟩ := (hsn y).1 hy2
        have hr2 := ((gU _ _ _ _).1 hy).2
        have hback := k8 hz hsym hmr.1 (by rw [hlen]; exact hmr.2) (fun h => h hmS) hr2
        exact c ((hsn _).2 ⟨hmS, s, hs, fH hr hback⟩)) (by omega)
      have h2 := ih (m + 1) (out ++ [bR (aC n e) (fun y => y ∉ S) S[m]]) s2 (by omega) (by omega) (by rw [List.length_append, List.length_singleton]; omega) q1 (fun y => by
        rw [q2, hsn, List.drop_zero, gU]
        constructor
        · rintro (⟨h, s, hs, hr⟩ | ⟨h, hr⟩)
          · exact ⟨h, s, htake.2 (.inl hs), hr⟩
          · have := js hz hmr.1 (by rw [hlen]; exact hmr.2) (fun h => h hmS) hr
            exact ⟨Classical.byContradiction this.2, S[m], htake.2 (.inr rfl), hr⟩
        · rintro ⟨h, s, hs, hr⟩
          rcases htake.1 hs with hs | rfl
          · exact .inl ⟨h, s, hs, hr⟩
          · exact .inr ⟨by rw [hlen]; exact hSr y h, hr⟩)
      rw [List.append_assoc, List.singleton_append] at h2
      have := q3 _ (by rw [aH hm (by omega)]; exact h2)
      simpa only [Int.natCast_zero] using this
/-- spec's l2Pieces lists the classes within the set, each by its first. -/
theorem o7 : Ev (fun k => fq k (n : Int) e S) ((bP (aC n e) (fun y => y ∉ S) n 0).map (fun (i : Nat) => bR (aC n e) (fun y => y ∉ S) (i : Int))) := by
  have h := o6 n hn e he S hSp hSr (S.length - 0) 0 [] [] rfl (Nat.zero_le _) (av _) .nil (fun y => by simp)
  rw [List.drop_zero, List.nil_append] at h
  have eq : S.filter (fun x => @decide (cE (aC n e) (fun y => y ∉ S) x.toNat) (Classical.propDecidable _)) = (bP (aC n e) (fun y => y ∉ S) n 0).map (fun (i : Nat) => (i : Int)) := by
    refine fo (hSp.filter _) ?_ (fun x => ?_)
    · rw [et, List.pairwise_map]
      refine List.Pairwise.imp (fun {a b} (h : a < b) => by omega) (List.Pairwise.sublist List.filter_sublist List.pairwise_lt_range')
    · rw [List.mem_filter, List.mem_map]
      constructor
      · rintro ⟨hx, h2⟩
        have := hSr x hx
        refine ⟨x.toNat, ?_, by omega⟩
        rw [et, List.mem_filter]
        exact ⟨by rw [List.mem_range'_1]; omega, by simpa using h2⟩
      · rintro ⟨i, hi, rfl⟩
        rw [et, List.mem_filter] at hi
        have hi2 : cE (aC n e) (fun y => y ∉ S) i := by simpa using hi.2
        exact ⟨Classical.byContradiction hi2.1, by simpa using hi2⟩
  have eq2 : (S.filter (fun x => @decide (cE (aC n e) (fun y => y ∉ S) x.toNat) (Classical.propDecidable _))).map (bR (aC n e) (fun y => y ∉ S)) = (bP (aC n e) (fun y => y ∉ S) n 0).map (fun (i : Nat) => bR (aC n e) (fun y => y ∉ S) (i : Int)) := by
    rw [eq, List.map_map]; rfl
  unfold fq
  rw [← eq2]
  simpa only [Int.natCast_zero] using h
end
end Go.Proofs.YtjgcehldepfaaaaGreat.P
namespace Go.Proofs.YtjgcehldepfaaaaGreat.P
open Go.RowKit YtjgcehldepfaaaaGreatW.PrintWords Go.Proofs.YtjgcehldepfaaaaGreatW.PrintLast Go.Proofs.YtjgcehldepfaaaaGreatW.PrintMore
set_option linter.unusedVariables false

def eC (e : List S63) (l : List Int) (r : Bool) : Nat → Nat → Bool
  | 0, _ => r
  | d + 1, i => if (l.take i).any (fun y => aW e y (l[i]?.getD 0)) = true then false else eC e l r d (i + 1)
theorem rv (e : List S63) (l : List Int) (r : Bool) (d : Nat) : ∀ i, eC e l r d i = true ↔ r = true ∧ ∀ q, i ≤ q → q < i + d → ∀ y ∈ l.take q, ¬ aW e y (l[q]?.getD 0) = true := by
  induction d with
  | zero => intro i; simp only [eC]; exact ⟨fun h => ⟨h, fun q h1 h2 => by omega⟩, fun h => h.1⟩
  | succ d ih =>
    intro i
    simp only [eC]
    by_cases c : (l.take i).any (fun y => aW e y (l[i]?.getD 0)) = true
    · rw [if_pos c]
      refine ⟨fun h => by simp at h, fun h => ?_⟩
      obtain ⟨y, hy, hc⟩ := List.any_eq_true.1 c
      exact absurd hc (h.2 i (av _) (by omega) y hy)
    · rw [if_neg c, ih]
      refine and_congr_right fun _ => ⟨fun h q h1 h2 y hy hc => ?_, fun h q h1 h2 => h q (by omega) (by omega)⟩
      by_cases hq : q = i
      · subst hq
        exact c (List.any_eq_true.2 ⟨y, hy, hc⟩)
      · exact h q (by omega) (by omega) y hy hc
section
variable (a : Int) (e : List S63) (l : List Int) (he : e.length ≤ 1048576) (hl : l.length ≤ 1048576)
include he hl
theorem rn {R : Bool} (i : Nat) (hi : i < l.length) (d : Nat) : ∀ (j : Nat), i - j = d → j ≤ i → Ev (fun k => dH k l (wrap64 ((i : Int) + 1)) a e) R →
    Ev (fun k => dW k l (i : Int) (j : Int) a e) (if ((l.take i).drop j).any (fun y => aW e y (l[i]?.getD 0)) = true then false else R) := by
  induction d with
  | zero =>
    intro j h0 h1 h
    refine Ev.step (fun k => by rw [dW]) (Ev.neg (by omega) ?_)
    rw [List.drop_eq_nil_of_le (by rw [List.length_take]; omega), List.any_nil, if_neg (by decide)]
    exact h
  | succ d ih =>
    intro j h0 h1 h
    have hj : j < l.length := by omega
    refine Ev.step (fun k => by rw [dW]) (Ev.pos (by omega) (Ev.pos (by omega) (Ev.pos (by omega) (Ev.pos (by omega) (Ev.pos (by omega) ?_)))))
    rw [aK l j hj, aK l i hi]
    refine Ev.bind (ip a e l[j] l[i] he) ?_
    have hd : (l.take i).drop j = l[j] :: (l.take i).drop (j + 1) := by
      rw [List.drop_eq_getElem_cons (by rw [List.length_take]; omega), List.getElem_take]
    rw [hd, List.any_cons, List.getElem?_eq_getElem hi, Option.getD_some]
    by_cases c : aW e l[j] l[i] = true
    · rw [c, Bool.true_or, if_pos rfl]
      exact Ev.pos rfl (Ev.now _)
    · have c' : aW e l[j] l[i] = false := by simpa using c
      rw [c', Bool.false_or, aH hj (by omega)]
      have := ih (j + 1) (by omega) (by omega) h
      rw [List.getElem?_eq_getElem hi, Option.getD_some] at this
      exact Ev.neg (by decide) this
theorem ro (d : Nat) : ∀ (i : Nat), l.length - i = d → i ≤ l.length → Ev (fun k => dH k l (i : Int) a e) (eC e l (bz 0 (wrap64 (a - 1)) none l) d i) := by
  induction d with
  | zero =>
    intro i h0 h1
    refine Ev.step (fun k => by rw [dH]) (Ev.neg (by omega) ?_)
    exact Ev.bind (pV a e l hl) (Ev.now _)
  | succ d ih =>
    intro i h0 h1
    have hi : i < l.length := by omega
    refine Ev.step (fun k => by rw [dH]) (Ev.pos (by omega) ?_)
    have h := ih (i + 1) (by omega) (by omega)
    rw [← aH hi (by omega)] at h
    have := rn a e l he hl i hi i 0 (by omega) (by omega) h
    simpa only [List.drop_zero, eC, Int.natCast_zero] using this
end
theorem pU (a : Int) (e : List S63) (l : List Int) (he : e.length ≤ 1048576) (hl : l.length ≤ 1048576) : Ev (fun k => ga k a e l) (eC e l (bz 0 (wrap64 (a - 1)) none l) l.length 0) :=
  ro a e l he hl l.length 0 (by omega) (Nat.zero_le _)
/-- No edge has both nodes in the set. -/
def cK (e : List S63) (l : List Int) : Bool := !(e.any fun s => decide (s.f0 ∈ l) && decide (s.f1 ∈ l))
theorem fc (e : List S63) (x y : Int) : aW e x y = true ↔ ∃ s ∈ e, (s.f0 = x ∧ s.f1 = y) ∨ (s.f0 = y ∧ s.f1 = x) := by
  unfold aW
  rw [List.any_eq_true]
  simp only [Bool.or_eq_true, Bool.and_eq_true, decide_eq_true_eq]
theorem rx (e : List S63) (l : List Int) (r : Bool) (hu : ∀ s ∈ e, s.f0 < s.f1) : eC e l r l.length 0 = (r && cK e l) := by
  rw [Bool.eq_iff_iff, rv, Bool.and_eq_true]
  refine and_congr_right fun _ => ?_
  unfold cK
  rw [Bool.not_eq_true', List.any_eq_false]
  simp only [Bool.and_eq_true, decide_eq_true_eq]
  constructor
  · intro h s hs hc
    obtain ⟨p, hp, h0⟩ := List.getElem_of_mem hc.1
    obtain ⟨q, hq, h1⟩ := List.getElem_of_mem hc.2
    have hne := hu s hs
    have hmem : ∀ p q (hp : p < l.length) (hq : q < l.length), p < q → l[p] ∈ l.take q := by
      intro p q hp hq hpq
      rw [List.mem_take_iff_getElem]
      exact ⟨p, by omega, rfl⟩
    rcases Nat.lt_trichotomy p q with hpq | hpq | hpq
    · refine h q (by omega) (by omega) l[p] (hmem p q hp hq hpq) ?_
      rw [List.getElem?_eq_getElem hq, Option.getD_some, fc]
      exact ⟨s, hs, .inl ⟨h0.symm, h1.symm⟩⟩
    · subst hpq
      rw [h0] at h1
      omega
    · refine h p (by omega) (by omega) l[q] (hmem q p hq hp hpq) ?_
      rw [List.getElem?_eq_getElem hp, Option.getD_some, fc]
      exact ⟨s, hs, .inr ⟨h0.symm, h1.symm⟩⟩
  · intro h q _ h2 y hy hc
    have hq : q < l.length := by omega
    rw [List.getElem?_eq_getElem hq, Option.getD_some, fc] at hc
    obtain ⟨s, hs, hc⟩ := hc
    have hy' : y ∈ l := List.mem_of_mem_take hy
    have hq' : l[q] ∈ l := List.getElem_mem hq
    refine h s hs ?_
    rcases hc with ⟨h0, h1⟩ | ⟨h0, h1⟩
    · exact ⟨h0 ▸ hy', h1 ▸ hq'⟩
    · exact ⟨h0 ▸ hq', h1 ▸ hy'⟩
theorem qi (a : Int) (e : List S63) (b : Int) (l : List Int) (he : ∀ s ∈ e, 0 ≤ s.f0 ∧ s.f0 < s.f1 ∧ s.f1 < 8) (hb : ∀ y, 0 ≤ y → y < 8 → aG b y = decide (y ∈ l)) : ee a e b = some (cK e l) := by
  unfold ee
  have h1 : e.all (fun s => (cZ b s.f0).isSome && (cZ b s.f1).isSome) = true := by
    rw [List.all_eq_true]
    intro s hs
    have := he s hs
    rw [eE (by omega), eE (by omega)]
    rfl
  rw [if_pos h1]
  unfold cK
  congr 2
  refine fh e _ _ fun s hs => ?_
  have := he s hs
  unfold eh
  rw [eE (by omega), eE (by omega), Option.getD_some, Option.getD_some, hb _ (by omega) (by omega), hb _ (by omega) (by omega)]
theorem lV (a : Int) (e : List S63) (l : List Int) (hl : l.length ≤ 1048576) (hg : bA a e = true) :
    Ev (fun k => eZ k a e l) (bz 0 (wrap64 (a - 1)) none l && cK e l) := by
  have h1 := dN hg
  have hw : wrap64 (a - 1) = a - 1 := bV (by omega) (by omega)
  unfold eZ
  refine Ev.bind (oF l a hl) ?_
  cases h : bz 0 (wrap64 (a - 1)) none l with
  | false => rw [Bool.false_and]; exact Ev.neg (by decide) (Ev.now _)
  | true =>
    have hx : ∀ x ∈ l, 0 ≤ x ∧ x < 8 := fun x hx => by
      have := jr _ _ l none h x hx
      omega
    have hb := (j4 l 0 (by omega) hx).2
    rw [Bool.true_and]
    refine Ev.pos rfl (Ev.bind (gY l hl hx) (Ev.bindo (qi a e (aJ 0 l) l (fun s hs => by have := h1.2.2 s hs; omega) (fun y h0 h8 => by rw [hb y h0 h8, iP h0 h8, Bool.false_or])) (Ev.now _)))
end Go.Proofs.YtjgcehldepfaaaaGreat.P
namespace Go.Proofs.YtjgcehldepfaaaaGreat.P
open Go.RowKit YtjgcehldepfaaaaGreatW.PrintWords Go.Proofs.YtjgcehldepfaaaaGreatW.PrintLast Go.Proofs.YtjgcehldepfaaaaGreatW.PrintMore
set_option linter.unusedVariables false
set_option linter.unusedSimpArgs false

def gO (e : List S63) (lo hi b : Int) : Bool := (decide (lo ≤ ((bN b).length : Int)) && decide (((bN b).length : Int) ≤ hi)) && cK e (bN b)
/-- The independent sets with lo to hi nodes, in order. -/
def bo (n : Nat) (e : List S63) (lo hi : Int) : List (List Int) := bK (ca (gO e lo hi) (2 ^ n))
theorem iR {n : Nat} (hn : n ≤ 8) (e : List S63) (lo hi : Int) (s : List Int) : s ∈ bo n e lo hi ↔ SetN n s ∧ (lo ≤ (s.length : Int) ∧ (s.length : Int) ≤ hi) ∧ cK e s = true := by
  unfold bo
  rw [jg, sJ hn]
  refine and_congr_right fun h => ?_
  unfold gO
  rw [(h.code hn).2, Bool.and_eq_true, Bool.and_eq_true, decide_eq_true_eq, decide_eq_true_eq]
theorem jN {n : Nat} (hn : n ≤ 8) (e : List S63) (lo hi : Int) : LexS (bo n e lo hi) := kF _ (sI (Nat.pow_le_pow_right (n := 2) (by decide) (show n ≤ 8 from hn)) _)
theorem mi {n : Nat} (hn : n ≤ 8) (e : List S63) (lo hi : Int) : (bo n e lo hi).length ≤ 256 := by
  unfold bo
  rw [kG]
  exact Nat.le_trans (jR _ _) (Nat.pow_le_pow_right (n := 2) (by decide) (show n ≤ 8 from hn))
section
variable (n : Nat) (hn : n ≤ 8) (e : List S63) (he : e.length ≤ 1048576) (hg : bA (n : Int) e = true) (lo hi : Int)
include hn he hg
theorem ru (b : Int) (hb : 0 ≤ b ∧ b < 256) : fd e lo hi b = gO e lo hi b := by
  have _hu := he
  have h1 := dN hg
  unfold fd gO cK
  congr 2
  refine fh e _ _ fun s hs => ?_
  have h2 := h1.2.2 s hs
  unfold eh
  rw [eE (by omega), eE (by omega), Option.getD_some, Option.getD_some]
  have hm : ∀ x : Int, 0 ≤ x → x < 8 → aG b x = decide (x ∈ bN b) := fun x h0 h8 => by
    rw [Bool.eq_iff_iff, decide_eq_true_eq, cT]
    exact ⟨fun h => ⟨by omega, h⟩, fun h => h.2⟩
  rw [hm _ (by omega) (by omega), hm _ (by omega) (by omega)]
theorem rp : dS (n : Int) e lo hi = some (bo n e lo hi) := by
  have h1 := dN hg
  have hpow : 2 ^ n ≤ 256 := Nat.pow_le_pow_right (n := 2) (by decide) (show n ≤ 8 from hn)
  unfold dS bo
  rw [if_pos ⟨by omega, by
    unfold gP
    rw [List.all_eq_true]
    intro s hs
    have := h1.2.2 s hs
    rw [af (show 0 ≤ s.f0 by omega), af (show 0 ≤ s.f1 by omega)]
    rfl⟩, Int.toNat_natCast]
  unfold ca
  rw [oh (fd e lo hi) (gO e lo hi) (2 ^ n) 0 fun z h0 h2 => ru n hn e he hg lo hi z ⟨h0, by omega⟩]
end
end Go.Proofs.YtjgcehldepfaaaaGreat.P
namespace Go.Proofs.YtjgcehldepfaaaaGreat.P
open Go.RowKit YtjgcehldepfaaaaGreatW.PrintWords Go.Proofs.YtjgcehldepfaaaaGreatW.PrintLast Go.Proofs.YtjgcehldepfaaaaGreatW.PrintMore
set_option linter.unusedVariables false
set_option linter.unusedSimpArgs false

/-- What IndependentSets answers. -/
def iH (a : Int) (e : List S63) (k0 : Int) : List (List Int) × Bool := if (bA a e && (decide (0 ≤ k0) && decide (k0 ≤ 8))) = true then (bo a.toNat e k0 k0, true) else ([], false)
theorem ql {a : Int} {e : List S63} {k0 : Int} (hg : bA a e = true) (c : (decide (0 ≤ k0) && decide (k0 ≤ 8)) = true) : iH a e k0 = (bo a.toNat e k0 k0, true) := if_pos (by rw [hg, c]; rfl)
theorem lY {a : Int} {e : List S63} {k0 : Int} (c : ¬ (bA a e && (decide (0 ≤ k0) && decide (k0 ≤ 8))) = true) : iH a e k0 = ([], false) := if_neg c
theorem qv (a : Int) (e : List S63) (k0 : Int) (he : e.length ≤ 1048576) : Ev (fun k => fV k a e k0) (iH a e k0) := by
  by_cases hg : bA a e = true
  · have h1 := dN hg
    by_cases c : (decide (0 ≤ k0) && decide (k0 ≤ 8)) = true
    · rw [ql hg c]
      obtain ⟨n, rfl⟩ := Int.eq_ofNat_of_zero_le h1.1
      unfold fV
      refine Ev.bind (iM _ e he) ?_
      refine Ev.pos hg ?_
      refine Ev.bindo (iV _ _ _) ?_
      refine Ev.pos c ?_
      rw [Int.toNat_natCast]
      exact Ev.bindo (rp n (by omega) e he hg k0 k0) (Ev.now _)
    · rw [lY (by rw [hg, Bool.true_and]; exact c)]
      unfold fV
      refine Ev.bind (iM _ e he) ?_
      refine Ev.pos hg ?_
      refine Ev.bindo (iV _ _ _) ?_
      exact Ev.neg c (Ev.now _)
  · rw [lY (by rw [Bool.and_eq_true]; exact fun h => hg h.1)]
    unfold fV
    refine Ev.bind (iM _ e he) ?_
    exact Ev.neg hg (Ev.now _)
end Go.Proofs.YtjgcehldepfaaaaGreat.P
