/- Locked tokens of a forest: what impl finds by trying all slides is what spec's rule tells. -/
import Derived.Test.YtjgcehldepfaaaaGreatForestMeetsG27
namespace Go.Proofs.YtjgcehldepfaaaaGreat.P
open Go.RowKit YtjgcehldepfaaaaGreatW.PrintWords Go.Proofs.YtjgcehldepfaaaaGreatW.PrintLast Go.Proofs.YtjgcehldepfaaaaGreatW.PrintMore
set_option linter.unusedVariables false
set_option linter.unusedSimpArgs false
def bA (a b : List Int) : List Int := a.filter fun x => decide (x ∈ b)
theorem qA (a b : List Int) : bm a (bm a b) = bA a b := by
 unfold bA
 conv => lhs; unfold bm
 refine List.filter_congr fun x hx => ?_
 rw [Bool.eq_iff_iff]
 simp only [List.mem_filter, decide_eq_true_eq, Bool.not_eq_true', decide_eq_false_iff_not]
 constructor
 · intro h
   by_cases c : x ∈ b
   · exact c
   · exact absurd ⟨hx, c⟩ h
 · intro h hh
   exact hh.2 h
theorem nE {a : List Int} (h : SetN 8 a) (b : List Int) : SetN 8 (bA a b) := ⟨h.1.filter _, fun z hz => h.2 z (List.mem_filter.1 hz).1⟩
theorem nL {b c : Int} (hb : 0 ≤ b ∧ b < 256) (hc : 0 ≤ c ∧ c < 256) : (0 ≤ Go.bits .and .u64 b c ∧ Go.bits .and .u64 b c < 256) ∧ ∀ y, 0 ≤ y → y < 8 → aA (Go.bits .and .u64 b c) y = (aA b y && aA c y) := by
 obtain ⟨n, rfl⟩ := Int.eq_ofNat_of_zero_le hb.1
 obtain ⟨m, rfl⟩ := Int.eq_ofNat_of_zero_le hc.1
 have hn : n < 256 := by omega
 have hm : m < 256 := by omega
 have h1 : n &&& m ≤ n := Nat.and_le_left
 rw [(bits_nat .u64 8 (by decide) iP n m hn hm).1]
 refine ⟨by omega, fun y h0 h8 => ?_⟩
 obtain ⟨z, rfl⟩ := Int.eq_ofNat_of_zero_le h0
 rw [eL _ z (by omega) (by omega), eL n z hn (by omega), eL m z hm (by omega), Nat.testBit_and]
theorem um {x y : List Int} (hx : SetN 8 x) (hy : SetN 8 y) {b : Int} (hb : 0 ≤ b ∧ b < 256) (hbx : bS b = x) : bS (Go.bits .and .u64 b (aE 0 y)) = bA x y ∧ (0 ≤ Go.bits .and .u64 b (aE 0 y) ∧ Go.bits .and .u64 b (aE 0 y) < 256) := by
 have h2 := (hy.code (by decide)).1
 have h3 := nL (b := b) (c := aE 0 y) hb (by omega)
 refine ⟨?_, h3.1⟩
 refine jc (fF _ _ _) (nE hx y).1 fun z => ?_
 have hm : z ∈ x ↔ (0 ≤ z ∧ z < 0 + ((8 : Nat) : Int)) ∧ aA b z = true := by rw [← hbx]; exact cD _ _ _ _
 unfold bA bS
 rw [cD, List.mem_filter, hm, decide_eq_true_eq]
 constructor
 · rintro ⟨h4, h5⟩
   rw [h3.2 z (by omega) (by omega), dw hy z (by omega) (by omega), Bool.and_eq_true, decide_eq_true_eq] at h5
   exact ⟨⟨h4, h5.1⟩, h5.2⟩
 · rintro ⟨⟨h4, h5⟩, h6⟩
   refine ⟨h4, ?_⟩
   rw [h3.2 z (by omega) (by omega), dw hy z (by omega) (by omega), h5, af h6]
   rfl
def aY (e : List S63) : List (Int × Int) := e.map fun s => (s.f0, s.f1)
theorem fw (e : List S63) (x y : Int) : FPure.Adj (aY e) x y ↔ aW e x y = true := by
 rw [fP]
 unfold FPure.Adj aY
 rw [List.mem_map, List.mem_map]
 constructor
 · rintro (⟨s, hs, h⟩ | ⟨s, hs, h⟩) <;> injection h with h1 h2
   · exact ⟨s, hs, .inl ⟨h1, h2⟩⟩
   · exact ⟨s, hs, .inr ⟨h1, h2⟩⟩
 · rintro ⟨s, hs, ⟨h1, h2⟩ | ⟨h1, h2⟩⟩
   · exact .inl ⟨s, hs, by rw [h1, h2]⟩
   · exact .inr ⟨s, hs, by rw [h1, h2]⟩
def bP (n : Nat) : List Int := (List.range n).map fun (k : Nat) => (k : Int)
theorem fu (n : Nat) (x : Int) : x ∈ bP n ↔ 0 ≤ x ∧ x < (n : Int) := by
 unfold bP
 rw [List.mem_map]
 constructor
 · rintro ⟨k, hk, rfl⟩
   rw [List.mem_range] at hk
   omega
 · intro h
   exact ⟨x.toNat, List.mem_range.2 (by omega), by omega⟩
theorem jH (n : Nat) : (bP n).Pairwise (· < ·) := by
 unfold bP
 rw [List.pairwise_map]
 exact List.Pairwise.imp (fun {a b} (h : a < b) => by omega) List.pairwise_lt_range
theorem ut (n : Nat) : (bP n).length = n := by simp [bP]
theorem qE : ∀ n : Fin 9, wrap64 ((dp .i64 1 n) - 1) = ((2 ^ n.val - 1 : Nat) : Int) ∧ bS ((2 ^ n.val - 1 : Nat) : Int) = (List.range n).map fun (k : Nat) => (k : Int) := by decide +kernel
theorem jf {l : List Int} (h : l.Pairwise (· < ·)) : l.Nodup := h.imp (fun h => by omega)
section
variable (n : Nat) (hn : n ≤ 8) (e : List S63) (he : e.length ≤ 1048576) (hg : bH (n : Int) e = true)
include hn he hg
noncomputable def b9 (n : Nat) (e : List S63) : Nat := (bF (az n e) (fun _ => False) n 0).length
omit hn he hg in
theorem l9 {i j : Int} : bn (az n e) (fun y => y ∉ bP n) i j ↔ bn (az n e) (fun _ => False) i j := by
 constructor
 · intro h
   exact h (fun k => bn (az n e) (fun _ => False) i k) (fun a a0 a1 ha b hb _ => fg ha a0 a1 hb (fun h => h)) (eD i)
 · intro h
   refine h (fun k => bn (az n e) (fun y => y ∉ bP n) i k) (fun a a0 a1 ha b hb _ => fg ha a0 a1 hb (fun h => h ?_)) (eD i)
   rw [bY] at a1
   exact (fu n b).2 ((gw n e a0 a1).1 hb).1
omit hn he hg in
theorem pU : bF (az n e) (fun y => y ∉ bP n) n 0 = bF (az n e) (fun _ => False) n 0 := by
 rw [cX, cX]
 refine List.filter_congr fun i hi => ?_
 rw [List.mem_range'_1] at hi
 have h0 : ∀ i' : Nat, i' < n → (i' : Int) ∈ bP n := fun i' h => (fu n _).2 (by omega)
 rw [decide_eq_decide]
 unfold bO
 constructor
 · rintro ⟨_, h2⟩
   exact ⟨fun h => h, fun i' hi' _ hr => h2 i' hi' (fun h => h (h0 i' (by omega))) (l9 n e |>.2 hr)⟩
 · rintro ⟨_, h2⟩
   exact ⟨fun h => h (h0 i (by omega)), fun i' hi' _ hr => h2 i' hi' (fun h => h) (l9 n e |>.1 hr)⟩
omit hn he hg in
theorem nF : b9 n e ≤ n := by
 unfold b9
 rw [cX]
 have := List.length_filter_le (fun i => @decide (bO (az n e) (fun _ => False) i) (Classical.propDecidable _)) (List.range' 0 n)
 rw [List.length_range'] at this
 exact this
omit hg in
theorem o5 : Ev (fun k => hF k (n : Int) e) (decide (e.length + b9 n e = n)) := by
 have h1 := qE ⟨n, by omega⟩
 have hp : 2 ^ n ≤ 256 := Nat.pow_le_pow_right (n := 2) (by decide) (show n ≤ 8 from hn)
 have hp1 : 1 ≤ 2 ^ n := Nat.one_le_two_pow
 have hc := nF n e
 unfold hF
 refine Ev.pos (by omega) ?_
 have hw : wrap64 ((dp .i64 1 (n : Int)) - 1) = ((2 ^ n - 1 : Nat) : Int) := h1.1
 rw [hw]
 refine Ev.bind (ub n _ hn (by omega)) ?_
 have hb : bS ((2 ^ n - 1 : Nat) : Int) = bP n := h1.2
 rw [hb]
 refine Ev.bind (mo n hn e he (bP n) (jH n) (fun x hx => (fu n x).1 hx)) ?_
 rw [List.length_map, pU]
 have hw2 : wrap64 ((n : Int) - (b9 n e : Int)) = (n : Int) - (b9 n e : Int) := cL (by omega) (by omega)
 have hcl : (bF (az n e) (fun _ => False) n 0).length = b9 n e := rfl
 rw [hcl, hw2]
 have : ((e.length : Int) == (n : Int) - (b9 n e : Int)) = decide (e.length + b9 n e = n) := by
  rw [Bool.eq_iff_iff, beq_iff_eq, decide_eq_true_eq]; omega
 rw [this]
 exact Ev.now _
theorem rJ : Ev (fun k => eJ k (n : Int) e) (decide (e.length + b9 n e = n)) := by
 have h1 := dF hg
 have hc := nF n e
 have hlen := bY n e
 unfold eJ
 refine Ev.bind (lU n hn e he (fun s hs => (h1.2.2 s hs).2.1)) ?_
 refine Ev.bind (mq (z := az n e) (by rw [hlen]; omega) (j4 n e).1 (lQ n hn e) (j2 n e)) ?_
 rw [List.length_map, hlen]
 have hcl : (bF (az n e) (fun _ => False) n 0).length = b9 n e := rfl
 have hw2 : wrap64 ((e.length : Int) + (b9 n e : Int)) = (e.length : Int) + (b9 n e : Int) := cL (by omega) (by omega)
 rw [hcl, hw2]
 have : ((e.length : Int) + (b9 n e : Int) == (n : Int)) = decide (e.length + b9 n e = n) := by
  rw [Bool.eq_iff_iff, beq_iff_eq, decide_eq_true_eq]; omega
 rw [this]
 exact Ev.now _
omit he hn in
theorem fY {x y : Int} (h : FPure.Adj (aY e) x y) : (0 ≤ x ∧ x < (n : Int)) ∧ (0 ≤ y ∧ y < (n : Int)) ∧ x ≠ y := by
 have h1 := dF hg
 rw [fw, fP] at h
 obtain ⟨s, hs, h⟩ := h
 have := h1.2.2 s hs
 omega
omit hn he hg in
theorem om (hf : e.length + b9 n e = n) : FPure.Tree (aY e) := by
 intro u a b ha hb hab
 have hlen := bY n e
 refine FPure.key_of (V := bP n) (L := (bF (az n e) (fun _ => False) n 0).map (fun (i : Nat) => (i : Int))) (jf (jH n)) (fun v hv => ?_) (by
   rw [ut, List.length_map]
   unfold aY
   rw [List.length_map]
   unfold b9 at hf
   omega) ha hb hab
 have hv2 := (fu n v).1 hv
 obtain ⟨m, h1, h2, h3⟩ := qY (p := fun i => bn (az n e) (fun _ => False) (i : Int) v) (n := v.toNat) (by rw [show ((v.toNat : Nat) : Int) = v by omega]; exact eD v)
 refine ⟨(m : Int), List.mem_map.2 ⟨m, ?_, rfl⟩, ?_⟩
 · rw [cX, List.mem_filter]
   refine ⟨by rw [List.mem_range'_1]; omega, ?_⟩
   have hrep : bO (az n e) (fun _ => False) m := ⟨fun h => h, fun i' hi' _ hr => h3 i' hi' (gx hr h2)⟩
   simpa using hrep
 · refine FPure.Conn.symm ?_
   refine h2 (fun k => FPure.Conn (aY e) (m : Int) k) (fun a a0 a1 hc b hb _ => ?_) (.refl _)
   rw [hlen] at a1
   exact .step hc ((fw e a b).2 ((gw n e a0 a1).1 hb).2)
end
section
variable (n : Nat) (hn : n ≤ 8) (e : List S63) (he : e.length ≤ 1048576) (hg : bH (n : Int) e = true) (hT : FPure.Tree (aY e)) (set : List Int) (hset : SetN n set)
include hn he hg hT hset
omit hn he hT hset in
theorem gD (x y : Int) : y ∈ bc e x n 0 ↔ FPure.Adj (aY e) x y := by
 rw [fI, fw]
 constructor
 · exact fun h => h.2
 · intro h
   have := fY n e hg ((fw e x y).2 h)
   exact ⟨by omega, h⟩
omit he hg hT in
theorem oE (x g : Int) (near : List Int) (hnear : near.length ≤ 8) (i : Nat) (hi : i < near.length) (N : Nat) (next : List Int) (hnext : next.length ≤ 8)
  (hst : ∀ w ∈ next, w ≠ x → w ∈ set → ∃ b, Ev (fun k => dx k (n : Int) e set w near[i]) b ∧ (b = true → FPure.St (aY e) (· ∈ set) N w near[i]) ∧ (b = false → FPure.Nst (aY e) (· ∈ set) N w near[i])) (d : Nat) :
  ∀ (j : Nat) (h : Bool), next.length - j = d → j ≤ next.length → ∃ h' : Bool, (h' = true → h = true ∨ ∃ w ∈ next.drop j, w ≠ x ∧ w ∈ set ∧ FPure.St (aY e) (· ∈ set) N w near[i]) ∧ (h' = false → h = false ∧ ∀ w ∈ next.drop j, w ≠ x → w ∈ set → FPure.Nst (aY e) (· ∈ set) N w near[i]) ∧
    ∀ R, (h' = true → Ev (fun k => di k set x g near ((i + 1 : Nat) : Int) (n : Int) e) R) → (h' = false → R = false) → Ev (fun k => cC k set x g near (i : Int) h next (j : Int) (n : Int) e) R := by
 have hw := Aside0.mk (aJ hi (by omega))
 have hsl := hset.len
 induction d with
 | zero =>
  intro j h h0 h1
  refine ⟨h, fun hh => .inl hh, fun hh => ⟨hh, fun w hw => ?_⟩, fun R h2 h3 => ?_⟩
  · rw [List.drop_eq_nil_of_le (by omega)] at hw; cases hw
  · refine Ev.step (fun k => by rw [cC]) (Ev.neg (by omega) ?_)
    cases h with
    | true => refine Ev.pos rfl ?_; rw [hw.out]; exact h2 rfl
    | false => refine Ev.neg (by decide) ?_; rw [h3 rfl]; exact Ev.now _
 | succ d ih =>
  intro j h h0 h1
  have hj : j < next.length := by omega
  have hd := List.drop_eq_getElem_cons hj
  have hwj := Aside0.mk (aJ hj (by omega))
  cases h with
  | true =>
    obtain ⟨h', a1, a2, a3⟩ := ih (j + 1) true (by omega) (by omega)
    refine ⟨h', fun _ => .inl rfl, fun hh => absurd (a2 hh).1 (by decide), fun R h2 h3 => ?_⟩
    refine Ev.step (fun k => by rw [cC]) (Ev.pos (by omega) (Ev.pos rfl ?_))
    rw [hwj.out]
    exact a3 R h2 h3
  | false =>
    by_cases cx : next[j] = x
    · obtain ⟨h', a1, a2, a3⟩ := ih (j + 1) false (by omega) (by omega)
      refine ⟨h', fun hh => ?_, fun hh => ⟨rfl, fun w hw => ?_⟩, fun R h2 h3 => ?_⟩
      · rcases a1 hh with h4 | ⟨w, hw, h4⟩
        · exact .inl h4
        · exact .inr ⟨w, by rw [hd]; exact .tail _ hw, h4⟩
      · rw [hd] at hw
        rcases List.mem_cons.1 hw with rfl | hw
        · exact fun h5 => absurd cx h5
        · exact (a2 hh).2 w hw
      · refine Ev.step (fun k => by rw [cC]) (Ev.pos (by omega) (Ev.neg (by decide) (Ev.pos (by omega) ?_)))
        rw [aM next j hj]
        refine Ev.pos cx ?_
        rw [hwj.out]
        exact a3 R h2 h3
    · by_cases cs : next[j] ∈ set
      · obtain ⟨b, b1, b2, b3⟩ := hst next[j] (List.getElem_mem hj) cx cs
        obtain ⟨h', a1, a2, a3⟩ := ih (j + 1) b (by omega) (by omega)
        refine ⟨h', fun hh => .inr ?_, fun hh => ⟨rfl, fun w hw => ?_⟩, fun R h2 h3 => ?_⟩
        · rcases a1 hh with h4 | ⟨w, hw, h4⟩
          · exact ⟨next[j], by rw [hd]; exact .head _, cx, cs, b2 h4⟩
          · exact ⟨w, by rw [hd]; exact .tail _ hw, h4⟩
        · rw [hd] at hw
          rcases List.mem_cons.1 hw with rfl | hw
          · exact fun _ _ => b3 (a2 hh).1
          · exact (a2 hh).2 w hw
        · refine Ev.step (fun k => by rw [cC]) (Ev.pos (by omega) (Ev.neg (by decide) (Ev.pos (by omega) ?_)))
          rw [aM next j hj]
          refine Ev.neg cx ?_
          refine Ev.bind (fl set next[j] (by omega)) ?_
          rw [af cs]
          refine Ev.pos rfl (Ev.pos (by omega) (Ev.pos (by omega) ?_))
          rw [aM near i hi]
          refine Ev.bind b1 ?_
          rw [hwj.out]
          exact a3 R h2 h3
      · obtain ⟨h', a1, a2, a3⟩ := ih (j + 1) false (by omega) (by omega)
        refine ⟨h', fun hh => ?_, fun hh => ⟨rfl, fun w hw => ?_⟩, fun R h2 h3 => ?_⟩
        · rcases a1 hh with h4 | ⟨w, hw, h4⟩
          · exact .inl h4
          · exact .inr ⟨w, by rw [hd]; exact .tail _ hw, h4⟩
        · rw [hd] at hw
          rcases List.mem_cons.1 hw with rfl | hw
          · exact fun _ h5 => absurd h5 cs
          · exact (a2 hh).2 w hw
        · refine Ev.step (fun k => by rw [cC]) (Ev.pos (by omega) (Ev.neg (by decide) (Ev.pos (by omega) ?_)))
          rw [aM next j hj]
          refine Ev.neg cx ?_
          refine Ev.bind (fl set next[j] (by omega)) ?_
          rw [ao cs]
          refine Ev.neg (by decide) ?_
          rw [hwj.out]
          exact a3 R h2 h3
omit hg hT in
theorem oD (x g : Int) (near : List Int) (hnear : near.length ≤ 8) (N : Nat)
  (hst : ∀ v ∈ near, v ≠ g → ∀ w ∈ bc e v n 0, w ≠ x → w ∈ set → ∃ b, Ev (fun k => dx k (n : Int) e set w v) b ∧ (b = true → FPure.St (aY e) (· ∈ set) N w v) ∧ (b = false → FPure.Nst (aY e) (· ∈ set) N w v)) (d : Nat) :
  ∀ (i : Nat), near.length - i = d → i ≤ near.length → ∃ b : Bool, Ev (fun k => di k set x g near (i : Int) (n : Int) e) b ∧
    (b = true → ∀ v ∈ near.drop i, v ≠ g → ∃ w ∈ bc e v n 0, w ≠ x ∧ w ∈ set ∧ FPure.St (aY e) (· ∈ set) N w v) ∧ (b = false → ∃ v ∈ near.drop i, v ≠ g ∧ ∀ w ∈ bc e v n 0, w ≠ x → w ∈ set → FPure.Nst (aY e) (· ∈ set) N w v) := by
 induction d with
 | zero =>
  intro i h0 h1
  refine ⟨true, ?_, fun _ v hv => ?_, fun h => by cases h⟩
  · exact Ev.step (fun k => by rw [di]) (Ev.neg (by omega) (Ev.now _))
  · rw [List.drop_eq_nil_of_le (by omega)] at hv; cases hv
 | succ d ih =>
  intro i h0 h1
  have hi : i < near.length := by omega
  have hd := List.drop_eq_getElem_cons hi
  obtain ⟨b, b1, b2, b3⟩ := ih (i + 1) (by omega) (by omega)
  by_cases cg : near[i] = g
  · refine ⟨b, ?_, fun hb v hv hvg => ?_, fun hb => ?_⟩
    · refine Ev.step (fun k => by rw [di]) (Ev.pos (by omega) (Ev.pos (by omega) ?_))
      rw [aM near i hi]
      refine Ev.pos cg ?_
      rw [aJ hi (by omega)]
      exact b1
    · rw [hd] at hv
      rcases List.mem_cons.1 hv with rfl | hv
      · exact absurd cg hvg
      · exact b2 hb v hv hvg
    · obtain ⟨v, hv, h⟩ := b3 hb
      exact ⟨v, by rw [hd]; exact .tail _ hv, h⟩
  · have hnl := fJ e near[i] n 0
    obtain ⟨h', a1, a2, a3⟩ := oE n hn e set hset x g near hnear i hi N (bc e near[i] n 0) (by omega) (hst near[i] (List.getElem_mem hi) cg) _ 0 false rfl (Nat.zero_le _)
    rw [List.drop_zero] at a1 a2
    have start : ∀ R, Ev (fun k => cC k set x g near (i : Int) false (bc e near[i] n 0) ((0 : Nat) : Int) (n : Int) e) R → Ev (fun k => di k set x g near (i : Int) (n : Int) e) R := by
      intro R hR
      refine Ev.step (fun k => by rw [di]) (Ev.pos (by omega) (Ev.pos (by omega) ?_))
      rw [aM near i hi]
      refine Ev.neg cg ?_
      have hnb := ki (n : Int) e near[i] he (by omega)
      rw [Int.toNat_natCast] at hnb
      refine Ev.bind hnb ?_
      simpa only [Int.natCast_zero] using hR
    cases h' with
    | true =>
      refine ⟨b, start b (a3 b (fun _ => b1) (fun h => by cases h)), fun hb v hv hvg => ?_, fun hb => ?_⟩
      · rw [hd] at hv
        rcases List.mem_cons.1 hv with rfl | hv
        · exact (a1 rfl).resolve_left (by decide)
        · exact b2 hb v hv hvg
      · obtain ⟨v, hv, h⟩ := b3 hb
        exact ⟨v, by rw [hd]; exact .tail _ hv, h⟩
    | false =>
      refine ⟨false, start false (a3 false (fun h => by cases h) (fun _ => rfl)), (fun h => by cases h), fun _ => ⟨near[i], by rw [hd]; exact .head _, cg, (a2 rfl).2⟩⟩
theorem oF (m : Nat) : ∀ (x g : Int), (0 ≤ x ∧ x < (n : Int)) → (FPure.Adj (aY e) g x ∨ ∀ z, ¬ FPure.Adj (aY e) z g) → x ≠ g → FPure.cnt (aY e) (bP n) x g ≤ m →
  ∃ b, Ev (fun k => dx k (n : Int) e set x g) b ∧ (b = true → FPure.St (aY e) (· ∈ set) m x g) ∧ (b = false → FPure.Nst (aY e) (· ∈ set) m x g) := by
 have hI : ∀ z, ¬ FPure.Adj (aY e) z z := fun z h => (fY n e hg h).2.2 rfl
 induction m with
 | zero =>
  intro x g hx hgx hne hc
  exfalso
  have : 0 < FPure.cnt (aY e) (bP n) x g := by
    unfold FPure.cnt
    refine List.length_pos_of_mem (a := x) ?_
    rw [List.mem_filter]
    exact ⟨(fu n x).2 hx, by simpa using FPure.Av.refl hne⟩
  omega
 | succ m ih =>
  intro x g hx hgx hne hc
  have hnl := fJ e x n 0
  obtain ⟨b, b1, b2, b3⟩ := oD n hn e he set hset x g (bc e x n 0) (by omega) m (fun v hv hvg w hw hwx hws => by
    have hxv := (gD n e hg x v).1 hv
    have hvw := (gD n e hg v w).1 hw
    have hin := fY n e hg hvw
    have := FPure.cnt_lt (V := bP n) hT hI ((fu n x).2 hx) hgx hne hxv hvg hvw hwx
    exact ih w v hin.2.1 (.inl hvw) (fun e => hin.2.2 e.symm) (by omega)) _ 0 rfl (Nat.zero_le _)
  rw [List.drop_zero] at b2 b3
  refine ⟨b, ?_, fun hb v hv hvg => ?_, fun hb => ?_⟩
  · refine Ev.step (fun k => by rw [dx]) ?_
    have hnb := ki (n : Int) e x he (by omega)
    rw [Int.toNat_natCast] at hnb
    refine Ev.bind hnb ?_
    simpa only [Int.natCast_zero] using b1
  · obtain ⟨w, h1, h2, h3, h4⟩ := b2 hb v ((gD n e hg x v).2 hv) hvg
    exact ⟨w, (gD n e hg v w).1 h1, h2, h3, h4⟩
  · obtain ⟨v, h1, h2, h3⟩ := b3 hb
    exact ⟨v, (gD n e hg x v).1 h1, h2, fun w hw hwx hws => h3 w ((gD n e hg v w).2 hw) hwx hws⟩
def eP (e : List S63) (set : List Int) (x : Int) : Prop := ∀ T, FPure.Reach (aY e) (· ∈ set) T → T x
theorem oC (hfree : FPure.Ind (aY e) (· ∈ set)) (x : Int) (hx : x ∈ set) : ∃ b, Ev (fun k => dx k (n : Int) e set x (-1)) b ∧ (b = true ↔ eP e set x) := by
 have hI : ∀ z, ¬ FPure.Adj (aY e) z z := fun z h => (fY n e hg h).2.2 rfl
 have hV : ∀ x y, FPure.Adj (aY e) x y → y ∈ bP n := fun x y h => (fu n y).2 (fY n e hg h).2.1
 have hneg : ∀ z, ¬ FPure.Adj (aY e) z (-1) := fun z h => by have := (fY n e hg h).2.1; omega
 have hxr := hset.2 x hx
 obtain ⟨b, b1, b2, b3⟩ := oF n hn e he hg hT set hset _ x (-1) hxr (.inr hneg) (by omega) (ar _)
 have hr := FPure.rule hT hI hV (jf (jH n)) (S := (· ∈ set)) (x := x) (g := -1) hneg (by omega) hx hfree
 refine ⟨b, b1, fun hb => hr.1 ⟨_, b2 hb⟩, fun h => ?_⟩
 cases b with
 | true => rfl
 | false =>
  obtain ⟨T, h1, h2⟩ := hr.2 ⟨_, b3 rfl⟩
  exact absurd (h T h1) h2
open Classical in
theorem sj (hfree : FPure.Ind (aY e) (· ∈ set)) (d : Nat) : ∀ (m : Nat) (acc : List Int), set.length - m = d → m ≤ set.length → acc.length ≤ m →
  Ev (fun k => dz k set acc (m : Int) (n : Int) e) (acc ++ (set.drop m).filter fun x => decide (eP e set x)) := by
 have hsl := hset.len
 induction d with
 | zero =>
  intro m acc h0 h1 h2
  rw [List.drop_eq_nil_of_le (by omega), List.filter_nil, List.append_nil]
  exact Ev.step (fun k => by rw [dz]) (Ev.neg (by omega) (Ev.now _))
 | succ d ih =>
  intro m acc h0 h1 h2
  have hm : m < set.length := by omega
  obtain ⟨b, b1, b2⟩ := oC n hn e he hg hT set hset hfree set[m] (List.getElem_mem hm)
  rw [List.drop_eq_getElem_cons hm, List.filter_cons]
  refine Ev.step (fun k => by rw [dz]) (Ev.pos (by omega) (Ev.pos (by omega) ?_))
  rw [aM set m hm]
  refine Ev.bind b1 ?_
  by_cases c : b = true
  · rw [if_pos (af (b2.1 c))]
    refine Ev.pos c (Ev.pos (by omega) ?_)
    rw [aJ hm (by omega)]
    have := ih (m + 1) (acc ++ [set[m]]) (by omega) (by omega) (by rw [List.length_append, List.length_singleton]; omega)
    rw [List.append_assoc, List.singleton_append] at this
    exact this
  · rw [if_neg (by simpa using fun h => c (b2.2 h))]
    refine Ev.neg c ?_
    rw [aJ hm (by omega)]
    exact ih (m + 1) acc (by omega) (by omega) (by omega)
open Classical in
theorem nl (hfree : FPure.Ind (aY e) (· ∈ set)) : Ev (fun k => f7 k (n : Int) e set) (set.filter fun x => decide (eP e set x)) := by
 have := sj n hn e he hg hT set hset hfree _ 0 [] rfl (Nat.zero_le _) (ar _)
 rw [List.drop_zero, List.nil_append] at this
 unfold f7
 simpa only [Int.natCast_zero] using this
end
theorem lT (st : List Int → List Int → Bool) (a : List Int) (i : Nat) : ∀ (t : List (List Int)) (k : Nat) (p : S63), p ∈ cm st a i k t ↔ ∃ r : Nat, ∃ hr : r < t.length, p = ⟨(i : Int), ((k + r : Nat) : Int)⟩ ∧ st a t[r] = true
 | [], k, p => by simp [cm]
 | b :: t, k, p => by
  rw [cm, List.mem_append, lT st a i t (k + 1) p]
  constructor
  · rintro (h | ⟨r, hr, h1, h2⟩)
    · split at h
      · next c => exact ⟨0, by simp, by rw [List.mem_singleton.1 h]; simp, c⟩
      · simp at h
    · exact ⟨r + 1, by simp only [List.length_cons]; omega, by rw [h1]; congr 1; omega, by simpa using h2⟩
  · rintro ⟨r, hr, h1, h2⟩
    cases r with
    | zero => refine .inl ?_; rw [if_pos (by simpa using h2)]; rw [h1]; simp
    | succ r => exact .inr ⟨r, by simp only [List.length_cons] at hr; omega, by rw [h1]; congr 1; omega, by simpa using h2⟩
theorem iM (st : List Int → List Int → Bool) : ∀ (t : List (List Int)) (i : Nat) (p : S63), p ∈ aT st i t ↔ ∃ q r : Nat, ∃ hq : q < t.length, ∃ hr : r < t.length, q < r ∧ p = ⟨((i + q : Nat) : Int), ((i + r : Nat) : Int)⟩ ∧ st t[q] t[r] = true
 | [], i, p => by simp [aT]
 | a :: t, i, p => by
  rw [aT, List.mem_append, lT, iM st t (i + 1) p]
  constructor
  · rintro (⟨r, hr, h1, h2⟩ | ⟨q, r, hq, hr, h1, h2, h3⟩)
    · exact ⟨0, r + 1, by simp, by simp only [List.length_cons]; omega, by omega, by rw [h1]; congr 1; omega, by simpa using h2⟩
    · exact ⟨q + 1, r + 1, by simp only [List.length_cons]; omega, by simp only [List.length_cons]; omega, by omega, by rw [h2]; congr 1 <;> omega, by simpa using h3⟩
  · rintro ⟨q, r, hq, hr, h1, h2, h3⟩
    simp only [List.length_cons] at hq hr
    cases r with
    | zero => omega
    | succ r =>
      cases q with
      | zero => exact .inl ⟨r, by omega, by rw [h2]; congr 1; omega, by simpa using h3⟩
      | succ q => exact .inr ⟨q, r, by omega, by omega, by omega, by rw [h2]; congr 1 <;> omega, by simpa using h3⟩
theorem jT (e : List S63) (x y : List Int) : ba e x y = ba e y x := by
 unfold ba ir
 rw [Bool.and_comm ((bm x y).length == 1)]
 congr 1
 unfold gC
 refine fX e _ _ (fun s _ => ?_)
 rw [Bool.or_comm]
theorem bu {l : List Int} {a : Int} (hp : l.Pairwise (· < ·)) (h : ∀ x, x ∈ l ↔ x = a) : l = [a] := fy hp (by simp) (fun x => by rw [h, List.mem_singleton])
section
variable (n : Nat) (hn : n ≤ 8) (e : List S63) (hg : bH (n : Int) e = true)
include hn hg
omit hn hg in
theorem jm (s : List Int) (hu : ∀ p ∈ e, p.f0 < p.f1) : cT e s = true ↔ FPure.Ind (aY e) (· ∈ s) := by
 unfold cT FPure.Ind
 rw [Bool.not_eq_true', List.any_eq_false]
 constructor
 · intro h x y hx hy ha
   rw [fw, fP] at ha
   obtain ⟨p, hp, ⟨h1, h2⟩ | ⟨h1, h2⟩⟩ := ha
   · exact h p hp (by rw [h1, h2]; simp [hx, hy])
   · exact h p hp (by rw [h1, h2]; simp [hx, hy])
 · intro h p hp hh
   simp only [Bool.and_eq_true, decide_eq_true_eq] at hh
   exact h _ _ hh.1 hh.2 ((fw e _ _).2 ((fP e _ _).2 ⟨p, hp, .inl ⟨rfl, rfl⟩⟩))
omit hn hg in
theorem jS {x y : List Int} (hx : x.Pairwise (· < ·)) (hy : y.Pairwise (· < ·)) (hi : FPure.Ind (aY e) (· ∈ y)) : ba e x y = true ↔ FPure.Slide (aY e) (· ∈ x) (· ∈ y) := by
 have ho : ∀ a b : List Int, ∀ z, z ∈ bm a b ↔ z ∈ a ∧ z ∉ b := fun a b z => by unfold bm; rw [List.mem_filter]; simp
 unfold ba ir
 rw [Bool.and_eq_true, Bool.and_eq_true, beq_iff_eq, beq_iff_eq]
 constructor
 · rintro ⟨⟨h1, h2⟩, h3⟩
   obtain ⟨a, ha⟩ := List.length_eq_one_iff.1 h1
   obtain ⟨b, hb⟩ := List.length_eq_one_iff.1 h2
   rw [ha, hb] at h3
   have ha2 : ∀ z, z ∈ x ∧ z ∉ y ↔ z = a := fun z => by rw [← ho, ha, List.mem_singleton]
   have hb2 : ∀ z, z ∈ y ∧ z ∉ x ↔ z = b := fun z => by rw [← ho, hb, List.mem_singleton]
   have hax := (ha2 a).2 rfl
   have hbx := (hb2 b).2 rfl
   refine ⟨a, b, hax.1, hbx.2, ?_, fun z => ?_, hi⟩
   · rw [fw]
     unfold gC at h3
     unfold aW
     rw [← h3]
     refine fX e _ _ (fun s _ => ?_)
     simp only [List.headD_cons]
     rw [Bool.eq_iff_iff]; simp
   · constructor
     · intro hz
       by_cases c : z ∈ x
       · exact .inl ⟨c, fun e => hax.2 (e ▸ hz)⟩
       · exact .inr ((hb2 z).1 ⟨hz, c⟩)
     · rintro (⟨h4, h5⟩ | h4)
       · exact Classical.byContradiction fun hn => h5 ((ha2 z).1 ⟨h4, hn⟩)
       · rw [h4]; exact hbx.1
 · rintro ⟨a, b, h1, h2, h3, h4, _⟩
   have hab : a ≠ b := fun e => h2 (by rw [← e]; exact h1)
   have ea : bm x y = [a] := bu (hx.filter _) (fun z => by
     rw [ho]
     constructor
     · rintro ⟨h5, h6⟩
       exact Classical.byContradiction fun hn => h6 ((h4 z).2 (.inl ⟨h5, hn⟩))
     · rintro rfl
       exact ⟨h1, fun h => by
         rcases (h4 z).1 h with h | h
         · exact h.2 rfl
         · exact hab h⟩)
   have eb : bm y x = [b] := bu (hy.filter _) (fun z => by
     rw [ho]
     constructor
     · rintro ⟨h5, h6⟩
       rcases (h4 z).1 h5 with h | h
       · exact absurd h.1 h6
       · exact h
     · rintro rfl
       exact ⟨(h4 z).2 (.inr rfl), h2⟩)
   rw [ea, eb]
   refine ⟨⟨rfl, rfl⟩, ?_⟩
   rw [fw] at h3
   unfold aW at h3
   unfold gC
   rw [← h3]
   refine fX e _ _ (fun s _ => ?_)
   simp only [List.headD_cons]
   rw [Bool.eq_iff_iff]; simp
omit hg in
theorem pE (L : List (List Int)) (i j : Nat) (hi : i < L.length) (hj : j < L.length) (hij : i ≠ j) : (j : Int) ∈ ai (cO L (aT (ba e) 0 L)) (i : Int) ↔ ba e L[i] L[j] = true := by
 have _hu := hn
 have e1 : ai (cO L (aT (ba e) 0 L)) (i : Int) = cq (aT (ba e) 0 L) (i : Int) := ig (n := L.length) _ (by omega) (by omega)
 rw [e1, j6]
 constructor
 · rintro ⟨p, hp, h⟩
   obtain ⟨q, r, hq, hr, h1, h2, h3⟩ := (iM _ L 0 p).1 hp
   rw [h2] at h
   simp only [Nat.zero_add] at h
   rcases h with ⟨h4, h5⟩ | ⟨_, h4, h5⟩
   · have e4 : q = i := by omega
     have e5 : r = j := by omega
     subst e4; subst e5; exact h3
   · have e4 : r = i := by omega
     have e5 : q = j := by omega
     subst e4; subst e5; rw [jT]; exact h3
 · intro h
   by_cases c : i < j
   · exact ⟨⟨(i : Int), (j : Int)⟩, (iM _ L 0 _).2 ⟨i, j, hi, hj, c, by simp, h⟩, .inl ⟨rfl, rfl⟩⟩
   · exact ⟨⟨(j : Int), (i : Int)⟩, (iM _ L 0 _).2 ⟨j, i, hj, hi, by omega, by simp, by rw [jT]; exact h⟩, .inr ⟨by show (j : Int) ≠ (i : Int); omega, rfl, rfl⟩⟩
theorem qb (l1 : List Int) (hset : SetN n l1) (hfree : cT e l1 = true) (L : List (List Int)) (hL : L = br n e (l1.length : Int) (l1.length : Int)) (q : Nat) (hq : q < L.length) (hql : L[q] = l1) (D : List Int)
   (dc : fV (cO L (aT (ba e) 0 L)) (fun k => 0 ≤ rd D k)) (ds : 0 ≤ rd D (q : Int)) (dm : ∀ P, fV (cO L (aT (ba e) 0 L)) P → P (q : Int) → ∀ k, 0 ≤ k → k < (L.length : Int) → 0 ≤ rd D k → P k) :
   (∀ k : Nat, ∀ hk : k < L.length, 0 ≤ rd D (k : Int) → FPure.Reach (aY e) (· ∈ l1) (· ∈ L[k])) ∧ (∀ T, FPure.Reach (aY e) (· ∈ l1) T → ∃ k : Nat, ∃ hk : k < L.length, 0 ≤ rd D (k : Int) ∧ ∀ z, T z ↔ z ∈ L[k]) := by
 have hu : ∀ p ∈ e, p.f0 < p.f1 := fun p hp => ((dF hg).2.2 p hp).2.1
 have hrl := j7 L (aT (ba e) 0 L)
 have hmem : ∀ k : Nat, ∀ hk : k < L.length, SetN n L[k] ∧ (L[k].length : Int) = (l1.length : Int) ∧ FPure.Ind (aY e) (· ∈ L[k]) := fun k hk => by
   have h1 : L[k] ∈ br n e (l1.length : Int) (l1.length : Int) := by rw [← hL]; exact List.getElem_mem hk
   have h2 := (jz hn e _ _ _).1 h1
   exact ⟨h2.1, by omega, (jm e _ hu).1 h2.2.2⟩
 have irr : ∀ k : Nat, ∀ hk : k < L.length, ¬ ba e L[k] L[k] = true := fun k hk h => by
   obtain ⟨a, b, h1, h2, h3, h4, _⟩ := (jS e (hmem k hk).1.1 (hmem k hk).1.1 (hmem k hk).2.2).1 h
   exact h2 ((h4 b).2 (.inr rfl))
 have rowin : ∀ (i : Nat) (hi : i < L.length) (j : Int), j ∈ ai (cO L (aT (ba e) 0 L)) (i : Int) → ∃ jn : Nat, ∃ hj : jn < L.length, j = (jn : Int) ∧ ba e L[i] L[jn] = true := by
   intro i hi j hj
   have e1 : ai (cO L (aT (ba e) 0 L)) (i : Int) = cq (aT (ba e) 0 L) (i : Int) := ig (n := L.length) _ (by omega) (by omega)
   have hj2 := hj
   rw [e1, j6] at hj2
   obtain ⟨p, hp, h⟩ := hj2
   obtain ⟨a, b, ha, hb, h1, h2, h3⟩ := (iM _ L 0 p).1 hp
   rw [h2] at h
   simp only [Nat.zero_add] at h
   rcases h with ⟨h4, h5⟩ | ⟨_, h4, h5⟩
   · have e4 : a = i := by omega
     subst e4
     exact ⟨b, hb, h5.symm, h3⟩
   · have e4 : b = i := by omega
     subst e4
     exact ⟨a, ha, h5.symm, by rw [jT]; exact h3⟩
 constructor
 · intro k hk h
   have := dm (fun k => ∃ kn : Nat, ∃ hk : kn < L.length, k = (kn : Int) ∧ FPure.Reach (aY e) (· ∈ l1) (· ∈ L[kn])) (fun i i0 i1 hi j hj => by
     obtain ⟨m, hm, rfl, hr⟩ := hi
     obtain ⟨jn, hjn, rfl, hs⟩ := rowin m hm j hj
     exact ⟨jn, hjn, rfl, .step hr ((jS e (hmem m hm).1.1 (hmem jn hjn).1.1 (hmem jn hjn).2.2).1 hs)⟩) ⟨q, hq, rfl, by rw [hql]; exact .refl⟩ (k : Int) (by omega) (by omega) h
   obtain ⟨kn, hkn, ek, hr⟩ := this
   have : kn = k := by omega
   subst this
   exact hr
 · intro T hT
   induction hT with
   | refl => exact ⟨q, hq, ds, fun z => by rw [hql]⟩
   | @step T U _ hs ih =>
     obtain ⟨k, hk, hd, hz⟩ := ih
     have eT : T = (· ∈ L[k]) := funext fun z => propext (hz z)
     subst eT
     obtain ⟨a, b, h1, h2, h3, h4, h5⟩ := hs
     have hm := hmem k hk
     have hbr := (fY n e hg h3).2.1
     classical
     have hu2 : ∀ z, z ∈ (bP n).filter (fun z => decide (U z)) ↔ U z := fun z => by
      rw [List.mem_filter, fu, decide_eq_true_eq]
      refine ⟨And.right, fun h => ⟨?_, h⟩⟩
      rcases (h4 z).1 h with h | h
      · exact hm.1.2 z h.1
      · rw [h]; exact hbr
     have hup : ((bP n).filter (fun z => decide (U z))).Pairwise (· < ·) := (jH n).filter _
     generalize (bP n).filter (fun z => decide (U z)) = u at hu2 hup
     have eU : U = (· ∈ u) := funext fun z => propext (hu2 z).symm
     subst eU
     have hlen : u.length = L[k].length := by
      have hnd := jf hm.1.1
      have hz2 : ∀ z, z ∈ b :: L[k].erase a ↔ z ∈ u := fun z => by
        have h4z : z ∈ u ↔ (z ∈ L[k] ∧ z ≠ a) ∨ z = b := h4 z
        rw [List.mem_cons, hnd.mem_erase_iff, h4z]
        constructor
        · rintro (h | h)
          · exact .inr h
          · exact .inl ⟨h.2, h.1⟩
        · rintro (h | h)
          · exact .inr ⟨h.2, h.1⟩
          · exact .inl h
      have hnd2 : (b :: L[k].erase a).Nodup := List.nodup_cons.2 ⟨fun h => h2 (List.mem_of_mem_erase h), hnd.erase a⟩
      have q1 := FPure.subset_len (jf hup) (fun v hv => (hz2 v).2 hv)
      have q2 := FPure.subset_len hnd2 (fun v hv => (hz2 v).1 hv)
      have q3 := List.length_erase_of_mem h1
      have q4 := List.length_pos_of_mem h1
      simp only [List.length_cons] at q1 q2
      omega
     have huL : u ∈ L := by
      rw [hL]
      refine (jz hn e _ _ _).2 ⟨⟨hup, fun z hz => ?_⟩, by omega, (jm e u hu).2 h5⟩
      rcases (h4 z).1 hz with h | h
      · exact hm.1.2 z h.1
      · rw [h]; exact hbr
     obtain ⟨j, hj, hju⟩ := List.mem_iff_getElem.1 huL
     have hsl : ba e L[k] L[j] = true := by
      refine (jS e hm.1.1 (hmem j hj).1.1 (hmem j hj).2.2).2 ?_
      rw [hju]
      exact ⟨a, b, h1, h2, h3, h4, h5⟩
     have hkj : k ≠ j := by
      rintro rfl
      exact irr k hk hsl
     have := dc (k : Int) (by omega) (by omega) hd (j : Int) ((pE n hn e L k j hk hj hkj).2 hsl)
     exact ⟨j, hj, this, fun z => by rw [hju]⟩
end
section
variable (ls : List (List Int)) (e : List S63) (D : List Int) (hl : ls.length ≤ 1048576) (hD : D.length = ls.length) (h8 : ∀ s ∈ ls, SetN 8 s)
include hl hD h8
theorem qV (d : Nat) : ∀ (m : Nat) (c : List Int) (b : Int), ls.length - m = d → m ≤ ls.length → SetN 8 c → (0 ≤ b ∧ b < 256) → bS b = c →
  ∃ R : List Int, SetN 8 R ∧ (∀ x, x ∈ R ↔ x ∈ c ∧ ∀ j, m ≤ j → ∀ hj : j < ls.length, 0 ≤ rd D (j : Int) → x ∈ ls[j]) ∧ Ev (fun k => d7 k b D (D.length : Int) (m : Int) ls e) R := by
 induction d with
 | zero =>
  intro m c b h0 h1 hc hb hbc
  refine ⟨c, hc, fun x => ⟨fun h => ⟨h, fun j hj hj2 => by omega⟩, And.left⟩, ?_⟩
  refine Ev.step (fun k => by rw [d7]) (Ev.neg (by omega) ?_)
  refine Ev.bind (iL b) ?_
  rw [show aI (aA b) 8 0 = c from hbc]
  exact Ev.now _
 | succ d ih =>
  intro m c b h0 h1 hc hb hbc
  have hm : m < ls.length := by omega
  have hmD : m < D.length := by omega
  have hs := h8 ls[m] (List.getElem_mem _)
  have hsl := cZ hs
  have hcl := cZ hc
  have hrd := aM D m hmD
  by_cases cd : D[m] ≥ 0
  · have ha := um hc hs hb hbc
    obtain ⟨R, r0, r1, r2⟩ := ih (m + 1) (bA c ls[m]) (Go.bits .and .u64 b (aE 0 ls[m])) (by omega) (by omega) (nE hc _) ha.2 ha.1
    refine ⟨R, r0, fun x => ?_, ?_⟩
    · rw [r1]
      unfold bA
      rw [List.mem_filter, decide_eq_true_eq]
      constructor
      · rintro ⟨⟨h2, h3⟩, h4⟩
        refine ⟨h2, fun j hj hj2 hd => ?_⟩
        by_cases ej : j = m
        · subst ej; exact h3
        · exact h4 j (by omega) hj2 hd
      · rintro ⟨h2, h3⟩
        exact ⟨⟨h2, h3 m (ar _) hm (by rw [hrd]; exact cd)⟩, fun j hj hj2 hd => h3 j (by omega) hj2 hd⟩
    · refine Ev.step (fun k => by rw [d7]) (Ev.pos (by omega) (Ev.pos (by omega) (Ev.pos (by omega) ?_)))
      rw [aM D m hmD, dT ls m hm, aJ hm (by omega)]
      refine Ev.pos cd (Ev.pos (by omega) ?_)
      exact Ev.bind (dh ls[m] (by omega) fun z hz => hs.2 z hz) r2
  · obtain ⟨R, r0, r1, r2⟩ := ih (m + 1) c b (by omega) (by omega) hc hb hbc
    refine ⟨R, r0, fun x => ?_, ?_⟩
    · rw [r1]
      constructor
      · rintro ⟨h2, h4⟩
        refine ⟨h2, fun j hj hj2 hd => ?_⟩
        by_cases ej : j = m
        · subst ej; rw [hrd] at hd; exact absurd hd cd
        · exact h4 j (by omega) hj2 hd
      · rintro ⟨h2, h3⟩
        exact ⟨h2, fun j hj hj2 hd => h3 j (by omega) hj2 hd⟩
    · refine Ev.step (fun k => by rw [d7]) (Ev.pos (by omega) (Ev.pos (by omega) (Ev.pos (by omega) ?_)))
      rw [aM D m hmD, aJ hm (by omega)]
      exact Ev.neg cd r2
end
theorem qk (l : List (List Int)) (e : List S63) (hl : l.length ≤ 1048576) (hx : LexS l) (s : List Int) (hs : s ∈ l) : ∃ q : Nat, ∃ hq : q < l.length, l[q] = s ∧ iz l e s = some ((q : Int), true) := by
 obtain ⟨q, hq, h2⟩ := List.mem_iff_getElem.1 hs
 subst h2
 refine ⟨q, hq, rfl, ?_⟩
 have hp : ij l l[q] = q := px l hx q hq
 unfold iz
 rw [if_pos (by omega), hp, af hq, Bool.true_and, List.getD_eq_getElem?_getD, List.getElem?_eq_getElem hq, Option.getD_some, (tQ _ _).2 rfl]
 rfl
section
variable (n : Nat) (hn : n ≤ 8) (e : List S63) (he : e.length ≤ 1048576) (hg : bH (n : Int) e = true) (l1 : List Int) (hl1 : l1.length ≤ 1048576) (hset : SetN n l1) (hfree : cT e l1 = true)
include hn he hg hl1 hset hfree
open Classical in
theorem mL : Ev (fun k => d8 k (n : Int) e l1) (l1.filter fun x => decide (eP e l1 x)) := by
 have hx8 : SetN 8 l1 := hset.wide hn
 have hlen := hset.len
 have ht := rW (n : Int) e (l1.length : Int) he
 unfold jL at ht
 rw [if_pos (by rw [hg, Bool.true_and, af (show (0 : Int) ≤ (l1.length : Int) by omega), af (show (l1.length : Int) ≤ 8 by omega)]; rfl), Int.toNat_natCast] at ht
 have hm := oo hn e (l1.length : Int) (l1.length : Int) 0
 have hgo := uq (dK e 0) (br n e (l1.length : Int) (l1.length : Int))
 have hmem : l1 ∈ br n e (l1.length : Int) (l1.length : Int) := (jz hn _ _ _ _).2 ⟨hset, ⟨Int.le_refl _, Int.le_refl _⟩, hfree⟩
 have h8 : ∀ s ∈ br n e (l1.length : Int) (l1.length : Int), SetN 8 s := fun s hs => jA hn hs
 have hlex := kA hn e (l1.length : Int) (l1.length : Int)
 rw [jP] at ht hm hgo
 obtain ⟨L, hL⟩ : ∃ L, L = br n e (l1.length : Int) (l1.length : Int) := ⟨_, rfl⟩
 rw [← hL] at ht hm hgo hmem h8 hlex
 have hml := hm.1
 obtain ⟨q, hq, hql, i2⟩ := qk L (aT (ba e) 0 L) hml hlex l1 hmem
 have hzl := j7 L (aT (ba e) 0 L)
 obtain ⟨D, e1, e2, e3, _, e5, e6, e7, _⟩ := oK (pM L (aT (ba e) 0 L) hm hgo) (by omega) (pL L (aT (ba e) 0 L) hm hgo) (q : Int) (by omega) (by omega)
 rw [hzl] at e3 e7
 obtain ⟨g1, g2⟩ := qb n hn e hg l1 hset hfree L hL q hq hql D e6 e5 e7
 have hcode := hx8.code (by decide)
 obtain ⟨R, r0, r1, r2⟩ := qV L (aT (ba e) 0 L) D hml e3 h8 _ 0 l1 (aE 0 l1) rfl (Nat.zero_le _) hx8 (by have := hcode.1; omega) hcode.2
 have eR : R = l1.filter fun x => decide (eP e l1 x) := by
  refine fy r0.1 (hset.1.filter _) (fun x => ?_)
  rw [r1, List.mem_filter, decide_eq_true_eq]
  refine and_congr_right fun hx => ?_
  constructor
  · intro h T hT
    obtain ⟨k, hk, hd, hz⟩ := g2 T hT
    exact (hz x).2 (h k (Nat.zero_le _) hk hd)
  · intro h j _ hj hd
    exact h _ (g1 j hj hd)
 rw [← eR]
 unfold d8
 refine Ev.bind ht ?_
 refine Ev.bindo i2 ?_
 refine Ev.bind (dh l1 hl1 fun z hz => hx8.2 z hz) ?_
 refine Ev.bind (pK L (aT (ba e) 0 L) hm hgo) ?_
 refine Ev.bind e1 ?_
 simpa only [Int.natCast_zero] using r2
end
end Go.Proofs.YtjgcehldepfaaaaGreat.P
