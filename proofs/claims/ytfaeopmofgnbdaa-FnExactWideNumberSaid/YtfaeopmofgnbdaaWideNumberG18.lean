/- impl's (Graph).best: the first of the best sets of a kind; for every world. -/
import Derived.Test.YtfaeopmofgnbdaaWideNumberG17
import Derived.Test.YtfaeopmofgnbdaaWideNumberG5
import Derived.Lib.SliceRun
import Derived.Handy
import Derived.Shelf.Abstract
import Derived.Test.YtfaeopmofgnbdaaWideNumberG16
import Derived.Test.YtfaeopmofgnbdaaWideNumberG12
namespace Go.Proofs.Ytfaeopmofgnbdaa.P
open Go.RowKit Go.Proofs.YtfaeopmofgnbdaaW.PrintWords Go.Proofs.YtfaeopmofgnbdaaW.PrintLast Go.Proofs.YtfaeopmofgnbdaaW.PrintMore
set_option linter.unusedVariables false
set_option linter.unusedSimpArgs false

def bestStep (kind : Int) (b s : List Int) : List Int := if kind = 2 ∧ b.length < s.length then s else b
def bestL (kind : Int) (t : List (List Int)) : List Int := t.foldl (bestStep kind) (t.headD [])
def impl_Graph_best.f (k : Nat) (a0_0 : Int) (l0_1 : List S48) (a1 : Int) : Option (List Int) := (impl_Graph_ofKind.f k a0_0 l0_1 a1).bind fun t => if 0 < t.length then some (bestL a1 t) else none
theorem row_of_S {w : World} {base : Nat} {ok : Nat → Prop} {g n cap : Nat} {xs : List (List Int)} (h : Kd.S (Kd.slice 3 (Kd.int .i64)) 37 w base ok (.slice (some ⟨g, 0, none⟩) n cap) xs) (q : Nat) (hq : q < n) {v : Value} (hc : w.cell? ⟨g, q, none⟩ = some v) :
    Kd.R (Kd.int .i64) 3 w base (fun _ => True) v (xs.getD q []) := by
  obtain ⟨c, _, hM, hcc⟩ := Kd.S_get h ([] : List Int) (q : Int) (by omega) (by omega)
  obtain ⟨u, rfl, hR⟩ := hM
  have h2 := hcc 0 u rfl
  have e : (⟨g, 0, none⟩ : Addr).add ((q : Int).toNat * (Kd.slice 3 (Kd.int .i64)).sz + 0) = ⟨g, q, none⟩ := by
    show (⟨g, 0, none⟩ : Addr).add ((q : Int).toNat * 1 + 0) = _
    rw [Int.toNat_natCast, Nat.mul_one, Nat.add_zero, add_plain]
  rw [e, hc] at h2
  obtain rfl := Option.some.inj h2
  rw [Int.toNat_natCast] at hR
  exact Kd.R_mono hR (fun _ _ => trivial)
set_option maxRecDepth 100000 in
set_option maxHeartbeats 2000000 in
theorem impl_Graph_best.calls (k : Nat) (a0_0 : Int) (A0_1 : Option Addr) (c0_1 : Nat) (l0_1 : List (S48)) (a1 : Int) (r : List Int) (w : World) (hr0_1 : Kd.C k48 w A0_1 l0_1.length l0_1) (hc0_1 : l0_1.length ≤ c0_1) (h : impl_Graph_best.f k a0_0 l0_1 a1 = some r) :
    Calls Try.prog 19 #[.agg #[.int .i64 a0_0, .slice A0_1 l0_1.length c0_1], .int .i64 a1] w fun e w' => ∃ v0_ : Value, e = .returned (v0_) ∧ Kd.R (Kd.int .i64) 3 w' w.heap.size (fun _ => True) v0_ r ∧ Below w.heap.size w w' := by
  have hu43 := Try.underlying28
  unfold impl_Graph_best.f at h
  obtain ⟨t, ht, h⟩ := Option.bind_eq_some_iff.mp h
  by_cases c : 0 < t.length
  case neg => rw [if_neg c] at h; cases h
  rw [if_pos c] at h
  have HE := zM (Option.some.inj h)
  have HT := zM ht
  have HN := zM c
  have HR := zM hr0_1
  have HC := zM hc0_1
  clear h ht c hr0_1 hc0_1
  have HB := zM (below_alloc (Below.refl w.heap.size w) (.cells #[.int .i64 a0_0, .slice A0_1 l0_1.length c0_1] 28))
  go_enter Try.func19, Try.ntmps19
  go_wp2_with (go_at_call 29; refine (impl_Graph_ofKind.calls k a0_0 A0_1 c0_1 l0_1 a1 t _ (Kd.C_below HR.out HB.out) HC.out HT.out).mono ?_; rintro e w3 ⟨v3, rfl, ho, hb⟩; have HS := zM (Kd.S_lower ho (below_size HB.out)); have HB2 := zM (below_step HB.out hb); clear ho hb HB; obtain ⟨g, cap, ev, gb, gl, HG⟩ := Kd.S_form HS.out HN.out; subst ev; have HL3 := zM ((Kd.S_reads' HS.out).2.2.2.1); obtain ⟨ad0, A0_, c0_, e0, hx0, hl0, hi0⟩ := at_L2 (Kd.S_reads' HS.out).2.2 0 (by omega) (by have := HN.out; omega); cases e0; rw [add_plain] at hx0; have hx0' : w3.cell? ⟨g, 0, none⟩ = some (.slice A0_ (rd_L2 t 0).length c0_) := hx0; have q0 : (0 : Int) < (t.length : Int) := (by have := HN.out; omega); have HX := zM hx0'; clear HG gb gl hl0 hi0)
  go_loopg [6, 17] (t.length + 1) (fun kq v6 v17 w' => w' = w3 ∧ ∃ (m q : Nat) (b : List Int) (Ab : Option Addr) (cb : Nat), v6 = .slice Ab b.length cb ∧ v17 = .int .i64 (m : Int) ∧ Aside0 (m ≤ t.length) ∧ Aside0 (kq = t.length - m + 1) ∧ Aside0 (q < t.length ∧ w3.cell? ⟨g, q, none⟩ = some (.slice Ab b.length cb) ∧ t.getD q [] = b) ∧ Aside0 (b = (t.take m).foldl (bestStep a1) (t.headD [])))
  case atStart =>
    refine ⟨rfl, 0, 0, rd_L2 t 0, A0_, c0_, rfl, by first | rfl | (simp; done), ⟨Nat.zero_le _⟩, ⟨by omega⟩, ⟨HN.out, HX.out, rfl⟩, ⟨?_⟩⟩
    have := HN.out
    cases t with
    | nil => simp at this
    | cons x t => rfl
  case round =>
    clear hx0 hx0' q0
    obtain ⟨rfl, m, q, b, Ab, cb, rfl, rfl, HM, HK1, HQ, HF⟩ := hrel
    by_cases c1 : m < t.length
    · have q1 : (m : Int) < (t.length : Int) := by omega
      obtain ⟨ad1, A1_, c1_, e1, hx1, hl1, hi1⟩ := at_L2 (Kd.S_reads' HS.out).2.2 (m : Int) (by omega) q1
      cases e1
      rw [Int.toNat_natCast, add_plain] at hx1
      have HX1 := zM hx1
      have HG1 := zM (show rd_L2 t (m : Int) = t[m] by simp [rd_L2, List.getD_eq_getElem?_getD, List.getElem?_eq_getElem c1])
      have HG2 := zM (show t.getD m [] = t[m] by simp [List.getD_eq_getElem?_getD, List.getElem?_eq_getElem c1])
      have HS1 := zM (show (t.take (m + 1)).foldl (bestStep a1) (t.headD []) = bestStep a1 b t[m] by rw [List.take_succ_eq_append_getElem c1, List.foldl_append, ← HF.out]; rfl)
      have HM1 := zM c1
      have c1b : decide ((m : Int) < (t.length : Int)) = true := decide_eq_true q1
      have c1c : decide (m < t.length) = true := decide_eq_true c1
      have p1 : (0 : Int) ≤ (m : Int) := by omega
      have hw1 : (m : Int) + 1 ≤ 9223372036854775807 := by have := HL3.out; omega
      rw [← HG1.out] at HS1 HG2
      generalize rd_L2 t (m : Int) = s at hx1 HX1 HS1 HG2
      replace p1 := eq_true p1
      replace q1 := eq_true q1
      clear hl1 hi1 c1 HG1
      by_cases ck : a1 = 2
      · have ck0 : (a1 == 2) = true := beq_iff_eq.mpr ck
        by_cases cl : b.length < s.length
        · have cl0 : decide ((s.length : Int) > (b.length : Int)) = true := decide_eq_true (by omega)
          have cl1 : decide ((b.length : Int) < (s.length : Int)) = true := decide_eq_true (by omega)
          have cl2 : decide (b.length < s.length) = true := decide_eq_true cl
          have HS2 := zM (show bestStep a1 b s = s by unfold bestStep; rw [if_pos ⟨ck, cl⟩])
          clear ck cl
          go_wp2
          go_roundg (t.length - m)
          case measure => have := HK1.out; have := HM1.out; omega
          case rel => exact ⟨rfl, m + 1, m, s, A1_, c1_, rfl, by first | rfl | (simp; done) | go_num, ⟨by have := HM1.out; omega⟩, ⟨by have := HM1.out; omega⟩, ⟨HM1.out, HX1.out, HG2.out⟩, ⟨by rw [HS1.out, HS2.out]⟩⟩
        · have cl0 : decide ((s.length : Int) > (b.length : Int)) = false := decide_eq_false (by omega)
          have cl1 : decide ((b.length : Int) < (s.length : Int)) = false := decide_eq_false (by omega)
          have cl2 : decide (b.length < s.length) = false := decide_eq_false cl
          have HS2 := zM (show bestStep a1 b s = b by unfold bestStep; rw [if_neg (fun h => cl h.2)])
          clear ck cl
          go_wp2
          go_roundg (t.length - m)
          case measure => have := HK1.out; have := HM1.out; omega
          case rel => exact ⟨rfl, m + 1, q, b, Ab, cb, rfl, by first | rfl | (simp; done) | go_num, ⟨by have := HM1.out; omega⟩, ⟨by have := HM1.out; omega⟩, HQ, ⟨by rw [HS1.out, HS2.out]⟩⟩
      · have ck0 : (a1 == 2) = false := beq_eq_false_iff_ne.mpr ck
        have HS2 := zM (show bestStep a1 b s = b by unfold bestStep; rw [if_neg (fun h => ck h.1)])
        clear ck
        go_wp2
        go_roundg (t.length - m)
        case measure => have := HK1.out; have := HM1.out; omega
        case rel => exact ⟨rfl, m + 1, q, b, Ab, cb, rfl, by first | rfl | (simp; done) | go_num, ⟨by have := HM1.out; omega⟩, ⟨by have := HM1.out; omega⟩, HQ, ⟨by rw [HS1.out, HS2.out]⟩⟩
    · have c1b : decide ((m : Int) < (t.length : Int)) = false := decide_eq_false (by omega)
      have c1c : decide (m < t.length) = false := decide_eq_false c1
      have HF2 := zM (show b = r by rw [HF.out, List.take_of_length_le (by omega)]; exact HE.out)
      clear c1
      go_wp2
      go_ret
      refine ⟨_, rfl, ?_, HB2.out⟩
      have := row_of_S HS.out q HQ.out.1 HQ.out.2.1
      rw [HQ.out.2.2, HF2.out] at this
      first
        | exact this
        | (rw [← HF2.out] at this ⊢; exact this)
end Go.Proofs.Ytfaeopmofgnbdaa.P
namespace Go.Proofs.Ytfaeopmofgnbdaa.P
open Go.RowKit Go.Proofs.YtfaeopmofgnbdaaW.PrintWords Go.Proofs.YtfaeopmofgnbdaaW.PrintLast Go.Proofs.YtfaeopmofgnbdaaW.PrintMore
set_option linter.unusedVariables false
set_option linter.unusedSimpArgs false
theorem S_of_tags {α : Type} {d : Kd α} {e : Nat} {w : World} {base : Nat} {ok : Nat → Prop} {v : Value} {f : Nat → Nat} {zs : List (α × Nat)} (h : (Kd.tag f d).R e w base ok v zs) (hn : (zs.map Prod.snd).Nodup) : Kd.S d e w base ok v (zs.map Prod.fst) := by
  obtain ⟨h0, inner, ho, hr⟩ := h
  refine ⟨fun b => (zs.map Prod.snd).idxOf (f b), h0, inner, by rw [List.length_zipIdx, List.length_map]; exact ho, by rw [List.length_zipIdx, List.length_map]; exact hr.1, fun j p hj => ?_⟩
  rw [List.getElem?_zipIdx, Nat.zero_add] at hj
  obtain ⟨x, hx, rfl⟩ := Option.map_eq_some_iff.1 hj
  rw [List.getElem?_map] at hx
  obtain ⟨z, hz, rfl⟩ := Option.map_eq_some_iff.1 hx
  refine d.M_mono (fun b hb => ⟨hb.1, ?_⟩) (hr.2 j z hz)
  have h2 : f b = z.2 := hb.2
  show (zs.map Prod.snd).idxOf (f b) = j
  obtain ⟨hlt, he⟩ := List.getElem?_eq_some_iff.1 hz
  have e2 : (zs.map Prod.snd)[j]'(by rw [List.length_map]; exact hlt) = z.2 := by rw [List.getElem_map, he]
  rw [h2, ← e2]
  exact hn.idxOf_getElem j _
/-- The cells from place i on told to lead to nothing: what stands ahead of them stays. -/
theorem R_nils (f : Nat → Nat) {base g n cap : Nat} {ok : Nat → Prop} (m : Nat) : ∀ (i : Nat) (D : List (List Int × Nat)) (w0 W : World), i + m = n → Below base w0 W → (Kd.tag f (Kd.slice 3 (Kd.int .i64))).R 37 W base ok (.slice (some ⟨g, 0, none⟩) n cap) D →
    ∃ D', D'.length = D.length ∧ D'.take i = D.take i ∧ (Kd.tag f (Kd.slice 3 (Kd.int .i64))).R 37 (W.setCells g i (List.replicate m (.slice none 0 0))) base ok (.slice (some ⟨g, 0, none⟩) n cap) D' ∧ Below base w0 (W.setCells g i (List.replicate m (.slice none 0 0))) := by
  induction m with
  | zero => intro i D w0 W hi hb h; exact ⟨D, rfl, rfl, h, hb⟩
  | succ m ih =>
    intro i D w0 W hi hb h
    have hn := (Kd.R_reads' h).1
    obtain ⟨c, hcl, hM, hcc, _⟩ := Kd.R_elem h (([], 0) : List Int × Nat) (i : Int) (by omega) (by omega)
    have hs : ((i : Int).toNat * (Kd.tag f (Kd.slice 3 (Kd.int .i64))).sz + 0) = i := by
      show (i : Int).toNat * 1 + 0 = i
      omega
    have hM2 : (Kd.tag f (Kd.slice 3 (Kd.int .i64))).M W base (fun k => ok k ∧ k ≠ g) ([], 0) (c.take 0 ++ [.slice none 0 0] ++ c.drop (0 + 1)) := by
      have hl : c.length = 1 := hcl
      rw [List.take_zero, List.nil_append, List.drop_eq_nil_of_le (by omega), List.append_nil]
      exact ⟨_, rfl, Kd.R_nil _ _ _ _ _⟩
    have hseg := Kd.R_seg h (i : Int) (by omega) (by omega) (seg := [.slice none 0 0]) (j := 0) hcl hcc (by show 0 + 1 ≤ 1; omega) hM2 (fun k hk => hk)
    rw [hs] at hseg
    have hbg : base ≤ g := Kd.R_base h g (by simp [Value.ownBlock])
    have hB : Below base w0 (W.setCells g i [.slice none 0 0]) := hb.trans ⟨hseg.2.os, hseg.2.tape, hseg.2.output, hseg.2.size, fun k hk => by
      have hlt : k < W.heap.size ∨ W.heap.size ≤ k := Nat.lt_or_ge _ _
      rcases hlt with hlt | hge
      · exact hseg.2.block k hlt (fun he => by injection he with he; omega)
      · exact setCells_far [.slice none 0 0] _ k (by omega)⟩
    obtain ⟨D', l1, l2, l3, l4⟩ := ih (i + 1) (D.set (i : Int).toNat ([], 0)) w0 _ (by omega) hB hseg.1
    refine ⟨D', by rw [l1, List.length_set], ?_, l3, l4⟩
    have := congrArg (List.take i) l2
    rw [List.take_take, List.take_take, Nat.min_eq_left (by omega)] at this
    rw [this, Int.toNat_natCast, List.take_set_of_le (Nat.le_refl i)]
/-- Function g, bound to the variables lb, answers p of a row of t; memory that was there stays. -/
def PredL (g : Nat) (lb : Array Value) (p : List Int → Bool) (t : List (List Int)) (w : World) : Prop :=
  ∀ (W : World) (s : List Int) (A : Option Addr) (c : Nat), s ∈ t → Below w.heap.size w W → Kd.C (Kd.int .i64) W A s.length s → s.length ≤ c → Calls Try.prog g (#[.slice A s.length c] ++ lb) W fun e w' => e = .returned (.bool (p s)) ∧ Below W.heap.size W w'
/-- The place of the first row of which p is so. -/
def idxL (p : List Int → Bool) : List (List Int) → Nat → Int
  | [], _ => -1
  | s :: t, n => if p s = true then (n : Int) else idxL p t (n + 1)
theorem idxL_none (p : List Int → Bool) : ∀ (t : List (List Int)) (n : Nat), (∀ s ∈ t, p s = false) → idxL p t n = -1
  | [], _, _ => rfl
  | s :: t, n, h => by
    rw [idxL, if_neg (by rw [h s (List.mem_cons_self ..)]; decide)]
    exact idxL_none p t (n + 1) (fun s hs => h s (List.mem_cons_of_mem _ hs))
theorem idxL_some (p : List Int → Bool) : ∀ (t : List (List Int)) (n : Nat), ¬ (∀ s ∈ t, p s = false) → ∃ k, ∃ hk : k < t.length, idxL p t n = ((n + k : Nat) : Int) ∧ p t[k] = true ∧ ∀ j, (hj : j < k) → p (t[j]'(by omega)) = false
  | [], _, h => absurd (fun s hs => absurd hs (by simp)) h
  | s :: t, n, h => by
    cases hs : p s with
    | true => exact ⟨0, by simp, by rw [idxL, if_pos hs]; rfl, hs, fun j hj => absurd hj (Nat.not_lt_zero _)⟩
    | false =>
      obtain ⟨k, hk, e, h1, h2⟩ := idxL_some p t (n + 1) (fun h2 => h (fun x hx => by
        rcases List.mem_cons.1 hx with rfl | hx
        · exact hs
        · exact h2 x hx))
      refine ⟨k + 1, by simpa using hk, by rw [idxL, if_neg (by rw [hs]; decide), e]; omega, by simpa using h1, fun j hj => ?_⟩
      cases j with
      | zero => exact hs
      | succ j => simpa using h2 j (by omega)
set_option maxRecDepth 100000 in
set_option maxHeartbeats 2000000 in
theorem index_calls (g : Nat) (lb : Array Value) (eg : ∀ (args : Array Value) (w : World), (callFunc g args).run Try.prog w = .ok (.enter g args) w) (p : List Int → Bool) (t : List (List Int)) (w0 : World) (hp : PredL g lb p t w0) (A : Option Addr) (c : Nat) (w : World) (hB : Below w0.heap.size w0 w)
    (hr : Kd.C (Kd.slice 3 (Kd.int .i64)) w A t.length t) (hc : t.length ≤ c) (ht : t.length ≤ 1048576) :
    Calls Try.prog 42 #[.slice A t.length c, .func (.func g) #[] lb] w fun e w' => e = .returned (.int .i64 (idxL p t 0)) ∧ Below w.heap.size w w' := by
  have HX := zM hp
  have HR := zM hr
  have HC := zM hc
  have HL := zM ht
  have HB0 := zM hB
  have HB := zM (Below.refl w.heap.size w)
  clear hp hr hc ht hB
  obtain ⟨z, hz⟩ : ∃ z, idxL p t 0 = z := ⟨_, rfl⟩
  rw [hz]
  have HZ := zM hz
  clear hz
  go_enter Try.func42, Try.ntmps42
  go_wp2
  go_loopg [5, 8] (t.length + 1) (fun kq v5 v8 w' => ∃ (m : Nat), v8 = .int .i64 m ∧ Aside0 (m ≤ t.length) ∧ Aside0 (kq = t.length - m + 1) ∧ Aside0 (idxL p (t.drop m) m = z) ∧ Aside0 (Below w.heap.size w w'))
  case atStart => exact ⟨0, rfl, ⟨Nat.zero_le _⟩, ⟨by omega⟩, ⟨by rw [List.drop_zero]; exact HZ.out⟩, HB⟩
  case round =>
    clear HB
    obtain ⟨m, rfl, HM, HK1, HI, HB⟩ := hrel
    by_cases c1 : m < t.length
    · have q1 : (m : Int) < (t.length : Int) := by omega
      obtain ⟨ad1, A1, c1_, e1, hx1, hl1, hi1⟩ := at_L2 (Kd.C_below HR.out HB.out) (m : Int) (by omega) q1
      cases e1
      rw [Int.toNat_natCast] at hx1
      have hg1 : rd_L2 t (m : Int) = t[m] := by simp [rd_L2, List.getD_eq_getElem?_getD, List.getElem?_eq_getElem c1]
      rw [hg1] at hx1 hl1 hi1
      have HT := zM (show t[m] ∈ t from List.getElem_mem c1)
      have hst := HI.out
      rw [List.drop_eq_getElem_cons c1, idxL] at hst
      generalize t[m] = s at hx1 hl1 hi1 HT hst
      have HLE := zM hl1
      have HRI := zM hi1
      have HC1 := zM c1
      have c1b : decide ((m : Int) < (t.length : Int)) = true := decide_eq_true q1
      have c1c : decide (m < t.length) = true := decide_eq_true c1
      have p1 : (0 : Int) ≤ (m : Int) := by omega
      have hw1 : (m : Int) + 1 ≤ 9223372036854775807 := by have := HL.out; omega
      replace p1 := eq_true p1
      replace q1 := eq_true q1
      clear c1 hg1 hl1 hi1
      cases hq : p s with
      | true =>
        rw [if_pos hq] at hst
        have HQ := zM hq
        have HST := zM hst
        clear hq hst
        go_wp2_with (go_at_fn g; refine (HX.out _ s A1 c1_ HT.out (below_step HB0.out HB.out) HRI.out HLE.out).mono ?_; rw [HQ.out]; rintro e w6 ⟨rfl, hb⟩; replace HB := zM (below_step HB.out hb); clear hb)
        go_ret
        exact ⟨by rw [← HST.out]; rfl, HB.out⟩
      | false =>
        rw [if_neg (by rw [hq]; decide)] at hst
        have HQ := zM hq
        have HST := zM hst
        clear hq hst
        go_wp2_with (go_at_fn g; refine (HX.out _ s A1 c1_ HT.out (below_step HB0.out HB.out) HRI.out HLE.out).mono ?_; rw [HQ.out]; rintro e w6 ⟨rfl, hb⟩; replace HB := zM (below_step HB.out hb); clear hb)
        go_roundg (t.length - m)
        case measure => have := HK1.out; have := HC1.out; omega
        case rel => exact ⟨m + 1, by first | rfl | (simp; done) | go_num, ⟨by have := HC1.out; omega⟩, ⟨by have := HC1.out; omega⟩, HST, HB⟩
    · have c1b : decide ((m : Int) < (t.length : Int)) = false := decide_eq_false (by omega)
      have c1c : decide (m < t.length) = false := decide_eq_false c1
      have HZ2 := zM (show z = -1 by
        have h1 := HI.out
        rw [List.drop_eq_nil_of_le (by omega)] at h1
        exact h1.symm)
      clear c1
      go_wp2
      go_ret
      exact ⟨by rw [HZ2.out]; rfl, HB.out⟩
end Go.Proofs.Ytfaeopmofgnbdaa.P
namespace Go.Proofs.Ytfaeopmofgnbdaa.P
open Go.RowKit Go.Proofs.YtfaeopmofgnbdaaW.PrintWords Go.Proofs.YtfaeopmofgnbdaaW.PrintLast Go.Proofs.YtfaeopmofgnbdaaW.PrintMore
set_option linter.unusedVariables false
set_option linter.unusedSimpArgs false
theorem tag_cell {f : Nat → Nat} {W : World} {base g n cap : Nat} {ok : Nat → Prop} {D : List (List Int × Nat)} (h : (Kd.tag f (Kd.slice 3 (Kd.int .i64))).R 37 W base ok (.slice (some ⟨g, 0, none⟩) n cap) D) (j : Nat) (hj : j < n) (x : List Int × Nat) (hx : D[j]? = some x) :
    ∃ A c, W.cell? ⟨g, j, none⟩ = some (.slice A x.1.length c) ∧ x.1.length ≤ c ∧ Kd.C (Kd.int .i64) W A x.1.length x.1 ∧ (Kd.tag f (Kd.slice 3 (Kd.int .i64))).M W base (fun k => ok k ∧ k ≠ g) x [.slice A x.1.length c] := by
  obtain ⟨c0, hcl, hM, hcc, _⟩ := Kd.R_elem h (([], 0) : List Int × Nat) (j : Int) (by omega) (by omega)
  have hg : D.getD (j : Int).toNat ([], 0) = x := by rw [Int.toNat_natCast, List.getD_eq_getElem?_getD, hx]; rfl
  rw [hg] at hM
  obtain ⟨v, hv, hR⟩ := hM
  subst hv
  have h2 := hcc 0 v rfl
  have hs : ((j : Int).toNat * (Kd.tag f (Kd.slice 3 (Kd.int .i64))).sz + 0) = j := by
    show (j : Int).toNat * 1 + 0 = j
    omega
  rw [hs] at h2
  obtain ⟨A, c, rfl⟩ := Kd.R_slice hR
  exact ⟨A, c, h2, (Kd.R_reads' hR).2.1, (Kd.R_reads' hR).2.2, _, rfl, hR⟩
theorem tag_frozen {f : Nat → Nat} {W : World} {base g n cap : Nat} {ok : Nat → Prop} {D : List (List Int × Nat)} (h : (Kd.tag f (Kd.slice 3 (Kd.int .i64))).R 37 W base ok (.slice (some ⟨g, 0, none⟩) n cap) D) (j : Nat) (hj : j < n) : W.frozen? ⟨g, j, none⟩ = false := by
  obtain ⟨c0, hcl, hM, hcc, hf⟩ := Kd.R_elem h (([], 0) : List Int × Nat) (j : Int) (by omega) (by omega)
  have h2 := hf 0
  have hs : ((j : Int).toNat * (Kd.tag f (Kd.slice 3 (Kd.int .i64))).sz + 0) = j := by
    show (j : Int).toNat * 1 + 0 = j
    omega
  rw [hs] at h2
  exact h2
theorem store_tag {f : Nat → Nat} {W w0 : World} {base g n cap : Nat} {D : List (List Int × Nat)} (HO : (Kd.tag f (Kd.slice 3 (Kd.int .i64))).R 37 W base (fun _ => True) (.slice (some ⟨g, 0, none⟩) n cap) D) (i : Nat) (hi : i < n) (x : List Int × Nat) (v : Value) (hvc : v.cells.toList = [v]) (hv1 : v.oneCell' = true)
    (hM : (Kd.tag f (Kd.slice 3 (Kd.int .i64))).M W base (fun k => True ∧ k ≠ g) x [v]) (HB : Below base w0 W) {ops : Array Oper} {rest : List Oper} {o : Oper} {a : Act} {Q : Exit → Act → World → Prop} (p q : Operand) (ho : o.op = .store 37 p q) (hN : o.dst = none) (hgd : o.guard = none)
    (haddr : a.eval p = .pointer (some ⟨g, i, none⟩)) (hx : a.eval q = v)
    (h : ∀ w1, (Kd.tag f (Kd.slice 3 (Kd.int .i64))).R 37 w1 base (fun _ => True) (.slice (some ⟨g, 0, none⟩) n cap) (D.set i x) → Below base w0 w1 → wpList Try.prog ops Q rest a w1) : wpList Try.prog ops Q (o :: rest) a W := by
  obtain ⟨co, hcl, hM0, hcc, _⟩ := Kd.R_elem HO (([], 0) : List Int × Nat) (i : Int) (by omega) (by omega)
  have hl : co.length = 1 := hcl
  refine Kd.R_store (Kd.tag f (Kd.slice 3 (Kd.int .i64))) (w0 := w0) base hN hgd 37 p q ho 37 (o' := i) (i : Int) 0 D x v [v] co (fun _ => True) (fun k => True ∧ k ≠ g) haddr ?_ hx hvc ?_ ?_ HO (by omega) (by omega) hcl hcc ?_ ?_ (fun _ hk => hk) HB ?_
  · show i = (i : Int).toNat * 1 + 0
    omega
  · kernel_rfl
  · intro q hq
    rw [List.mem_singleton.1 hq]
    exact hv1
  · exact Nat.le_refl 1
  · rw [List.take_zero, List.nil_append, List.drop_eq_nil_of_le (by rw [hl]; exact Nat.le_refl 1), List.append_nil]
    exact hM
  · intro w1 h1 h2 _
    rw [Int.toNat_natCast] at h1
    exact h w1 h1 h2
def keepZ (p : List Int → Bool) (x : List Int × Nat) : Bool := !p x.1
theorem keepZ_fst (p : List Int → Bool) : ∀ (t : List (List Int)) (n : Nat), ((t.zipIdx n).filter (keepZ p)).map Prod.fst = t.filter (fun s => !p s)
  | [], _ => rfl
  | s :: t, n => by
    rw [List.zipIdx_cons, List.filter_cons, List.filter_cons]
    have ih := keepZ_fst p t (n + 1)
    by_cases h : p s = true
    · rw [if_neg (show ¬ keepZ p (s, n) = true by simp [keepZ, h]), if_neg (by simp [h])]
      exact ih
    · rw [if_pos (show keepZ p (s, n) = true by simp [keepZ, h]), if_pos (by simp [h]), List.map_cons, ih]
theorem keepZ_nodup (p : List Int → Bool) (t : List (List Int)) : ((t.zipIdx.filter (keepZ p)).map Prod.snd).Nodup := by
  refine List.Nodup.sublist (List.Sublist.map Prod.snd List.filter_sublist) ?_
  rw [List.zipIdx_map_snd, ← List.range_eq_range']
  exact List.nodup_range
set_option maxRecDepth 100000 in
set_option maxHeartbeats 4000000 in
theorem delete_calls (g : Nat) (lb : Array Value) (eg : ∀ (args : Array Value) (w : World), (callFunc g args).run Try.prog w = .ok (.enter g args) w) (p : List Int → Bool) (t : List (List Int)) (w0 : World) (hp : PredL g lb p t w0) (v : Value) (w : World) (hB : Below w0.heap.size w0 w)
    (ho : Kd.S (Kd.slice 3 (Kd.int .i64)) 37 w w0.heap.size (fun _ => True) v t) (ht : t.length ≤ 1048576) :
    Calls Try.prog 28 #[v, .func (.func g) #[] lb] w fun e w' => ∃ v', e = .returned v' ∧ Kd.S (Kd.slice 3 (Kd.int .i64)) 37 w' w0.heap.size (fun _ => True) v' (t.filter (fun s => !p s)) ∧ Below w0.heap.size w0 w' := by
  by_cases hn : ∀ s ∈ t, p s = false
  · have hf : t.filter (fun s => !p s) = t := List.filter_eq_self.2 (fun s hs => by rw [hn s hs]; rfl)
    rw [hf]
    obtain ⟨A, c, rfl⟩ := Kd.S_slice ho
    have hI := index_calls g lb eg p t w0 hp A c w hB (Kd.S_reads' ho).2.2 (Kd.S_reads' ho).2.1 ht
    rw [idxL_none p t 0 hn] at hI
    have HI := zM hI
    have HB := zM hB
    have HO := zM ho
    clear hI hn hf hB ho hp ht
    go_enter Try.func28, Try.ntmps28
    go_wp2_with (go_at_call 42; refine HI.out.mono ?_; rintro e w1 ⟨rfl, hb⟩; replace HO := zM (Kd.S_below HO.out hb); replace HB := zM (below_step HB.out hb); clear hb)
    go_ret
    exact ⟨_, by first | rfl | (simp; done), HO.out, HB.out⟩
  · obtain ⟨k0, hk0, he, hk1, hk2⟩ := idxL_some p t 0 hn
    rw [Nat.zero_add] at he
    obtain ⟨g0, c, rfl, hgb, hgl, hcells⟩ := Kd.S_form ho (by omega)
    have hI := index_calls g lb eg p t w0 hp _ c w hB (Kd.S_reads' ho).2.2 (Kd.S_reads' ho).2.1 ht
    rw [he] at hI
    have HI := zM hI
    have HX := zM hp
    have HL := zM ht
    have HB := zM hB
    have HG := zM hgb
    have HCP := zM ((Kd.S_reads' ho).2.1 : t.length ≤ c)
    obtain ⟨f, ho⟩ := ho
    have HO := zM ho
    obtain ⟨Z, hZ⟩ : ∃ Z, t.zipIdx = Z := ⟨_, rfl⟩
    rw [hZ] at HO
    have HZL := zM (show Z.length = t.length by rw [← hZ, List.length_zipIdx])
    have HZA := zM (fun (j : Nat) (hj : j < t.length) => (show Z[j]? = some (t[j], j) by rw [← hZ, List.getElem?_zipIdx, List.getElem?_eq_getElem hj]; simp))
    have HZZ := zM hZ
    have hz0 : (Z.take (k0 + 1)).filter (keepZ p) = Z.take k0 := by
      have hl : k0 < Z.length := by rw [HZL.out]; exact hk0
      have e1 : Z[k0] = (t[k0], k0) := by
        have := HZA.out k0 hk0
        rw [List.getElem?_eq_getElem hl] at this
        exact Option.some.inj this
      rw [List.take_succ_eq_append_getElem hl, List.filter_append, e1]
      have e2 : [(t[k0], k0)].filter (keepZ p) = [] := by simp [keepZ, hk1]
      rw [e2, List.append_nil]
      refine List.filter_eq_self.2 (fun x hx => ?_)
      obtain ⟨i, hi, rfl⟩ := List.getElem_of_mem hx
      rw [List.length_take] at hi
      have h3 := HZA.out i (by omega)
      rw [List.getElem?_eq_getElem (by omega)] at h3
      have h4 := Option.some.inj h3
      rw [List.getElem_take, h4]
      show (!p t[i]) = true
      rw [hk2 i (by omega)]
      rfl
    have HZ0 := zM hz0
    have HK := zM hk0
    have hz : ∀ w : World, (zeroValue 37).run Try.prog w = .ok (.slice none 0 0) w := fun w => by go_simp
    have HZV := zM hz
    have hne : ((k0 : Int) == -1) = false := beq_eq_false_iff_ne.mpr (by omega)
    have hne2 : decide ((k0 : Int) = -1) = false := decide_eq_false (by omega)
    have hw0 : (k0 : Int) + 1 ≤ 9223372036854775807 := by omega
    clear hI hp ht hB hgb hgl hcells ho hZ hk0 hk1 hk2 hn he hz0 hz
    go_enter Try.func28, Try.ntmps28
    go_wp2_with (go_at_call 42; refine HI.out.mono ?_; rintro e w1 ⟨rfl, hb⟩; replace HO := zM (Kd.R_below HO.out hb); replace HB := zM (below_step HB.out hb); clear hb)
    clear HI
    go_loopg [5, 6, 7] (t.length + 1) (fun kq v5 v6 v7 w' => ∃ (i j : Nat) (D : List (List Int × Nat)), v5 = .int .i64 (i : Int) ∧ v6 = .int .i64 (j : Int) ∧ Aside0 (i < j) ∧ Aside0 (j ≤ t.length) ∧ Aside0 (t.length - j + 1 ≤ kq) ∧ Aside0 (D.take i = (Z.take j).filter (keepZ p)) ∧ Aside0 (D.drop j = Z.drop j) ∧ Aside0 (D.length = t.length) ∧ Aside0 ((Kd.tag f (Kd.slice 3 (Kd.int .i64))).R 37 w' w0.heap.size (fun _ => True) (.slice (some ⟨g0, 0, none⟩) t.length c) D) ∧ Aside0 (Below w0.heap.size w0 w'))
    case atStart => exact ⟨k0, k0 + 1, Z, rfl, by first | rfl | (simp; done) | go_num, ⟨by omega⟩, ⟨by have := HK.out; omega⟩, ⟨by have := HK.out; omega⟩, ⟨HZ0.out.symm⟩, ⟨rfl⟩, HZL, HO, HB⟩
    case round =>
      clear HO HB HZ0 hne hne2 hw0
      obtain ⟨i, j, D, rfl, rfl, HIJ, HJ, HK1, HT, HD, HDL, HO, HB⟩ := hrel
      have p2 : (0 : Int) ≤ (i : Int) := by omega
      have q2 : (i : Int) < (t.length : Int) := by have := HIJ.out; have := HJ.out; omega
      by_cases c1 : j < t.length
      · have q1 : (j : Int) < (t.length : Int) := by omega
        have c1b : decide ((j : Int) < (t.length : Int)) = true := decide_eq_true q1
        have c1c : decide (j < t.length) = true := decide_eq_true c1
        have p1 : (0 : Int) ≤ (j : Int) := by omega
        have hw1 : (j : Int) + 1 ≤ 9223372036854775807 := by have := HL.out; omega
        have hw2 : (i : Int) + 1 ≤ 9223372036854775807 := by have := HL.out; omega
        have hDj : D[j]? = some (t[j], j) := by
          have h1 := congrArg (fun l => l[0]?) HD.out
          simp only [List.getElem?_drop, Nat.add_zero] at h1
          rw [h1]
          exact HZA.out j c1
        have hZj : Z.take (j + 1) = Z.take j ++ [(t[j], j)] := by
          have hl : j < Z.length := by rw [HZL.out]; exact c1
          have h3 := HZA.out j c1
          rw [List.getElem?_eq_getElem hl] at h3
          rw [List.take_succ_eq_append_getElem hl, Option.some.inj h3]
        have HM := zM (show t[j] ∈ t from List.getElem_mem c1)
        obtain ⟨A1, c1_, hx1, hl1, hi1, hm1⟩ := tag_cell HO.out j c1 _ hDj
        have HDJ := zM hDj
        have HZJ := zM hZj
        simp only at hx1 hl1 hi1
        generalize t[j] = s at hx1 hl1 hi1 hm1 HM HDJ HZJ
        have HLE := zM hl1
        have HRI := zM hi1
        have HM1 := zM hm1
        have HC1 := zM c1
        replace p1 := eq_true p1
        replace q1 := eq_true q1
        replace p2 := eq_true p2
        replace q2 := eq_true q2
        have q3 : (i < t.length) = True := eq_true (by have := HIJ.out; have := HC1.out; omega)
        clear c1 hl1 hi1 hm1 hDj hZj
        cases hq : p s with
        | true =>
          have HQ := zM hq
          have HT2 := zM (show D.take i = (Z.take (j + 1)).filter (keepZ p) by
            rw [HZJ.out, List.filter_append, ← HT.out]
            have e2 : [(s, j)].filter (keepZ p) = [] := by simp [keepZ, hq]
            rw [e2, List.append_nil])
          have HD2 := zM (show D.drop (j + 1) = Z.drop (j + 1) by
            have := congrArg (List.drop 1) HD.out
            rw [List.drop_drop, List.drop_drop] at this
            exact this)
          clear hq
          go_wp2_with (go_at_fn g; refine (HX.out _ s A1 c1_ HM.out HB.out HRI.out HLE.out).mono ?_; rw [HQ.out]; rintro e w6 ⟨rfl, hb⟩; replace HO := zM (Kd.R_below HO.out hb); replace HB := zM (below_step HB.out hb); clear hb)
          go_roundg (t.length - j)
          case measure => have := HK1.out; have := HC1.out; omega
          case rel => exact ⟨i, j + 1, D, rfl, by first | rfl | (simp; done) | go_num, ⟨by have := HIJ.out; omega⟩, ⟨by have := HC1.out; omega⟩, ⟨by have := HC1.out; omega⟩, HT2, HD2, HDL, HO, HB⟩
        | false =>
          have HQ := zM hq
          obtain ⟨D2, hD2⟩ : ∃ D2, D.set i (s, j) = D2 := ⟨_, rfl⟩
          have hil : i < D.length := by rw [HDL.out]; have := HIJ.out; have := HC1.out; omega
          have HT2 := zM (show D2.take (i + 1) = (Z.take (j + 1)).filter (keepZ p) by
            rw [HZJ.out, List.filter_append, ← HT.out]
            have e2 : [(s, j)].filter (keepZ p) = [(s, j)] := by simp [keepZ, hq]
            rw [e2, ← hD2, List.take_succ_eq_append_getElem (by rw [List.length_set]; exact hil), List.take_set_of_le (Nat.le_refl i), List.getElem_set_self])
          have HD2 := zM (show D2.drop (j + 1) = Z.drop (j + 1) by
            have := congrArg (List.drop 1) HD.out
            rw [List.drop_drop, List.drop_drop] at this
            rw [← hD2, List.drop_set_of_lt (by have := HIJ.out; omega)]
            exact this)
          have HDL2 := zM (show D2.length = t.length by rw [← hD2, List.length_set]; exact HDL.out)
          have HE2 := zM hD2
          clear hq hD2 hil
          go_wp2_with (first
            | (go_at_fn g; refine (HX.out _ s A1 c1_ HM.out HB.out HRI.out HLE.out).mono ?_; rw [HQ.out]; rintro e w6 ⟨rfl, hb⟩; replace HO := zM (Kd.R_below HO.out hb); replace HM1 := zM (Kd.M_below HM1.out hb); replace HB := zM (below_step HB.out hb); clear hb hx1)
            | ((with_reducible refine gate_ (.store 37 (.tmp 33) (.tmp 32)) rfl ?_); refine store_tag HO.out i (of_eq_true q3) (s, j) (.slice A1 s.length c1_) rfl rfl HM1.out HB.out (.tmp 33) (.tmp 32) rfl rfl rfl rfl rfl ?_; intro w7 ho hb; rw [HE2.out] at ho; replace HO := zM ho; replace HB := zM hb; clear ho hb HM1))
          go_roundg (t.length - j)
          case measure => have := HK1.out; have := HC1.out; omega
          case rel => exact ⟨i + 1, j + 1, D2, by first | rfl | (simp; done) | go_num, by first | rfl | (simp; done) | go_num, ⟨by have := HIJ.out; omega⟩, ⟨by have := HC1.out; omega⟩, ⟨by have := HC1.out; omega⟩, HT2, HD2, HDL2, HO, HB⟩
      · have hj : j = t.length := by have := HJ.out; omega
        have c1b : decide ((j : Int) < (t.length : Int)) = false := decide_eq_false (by omega)
        have c1c : decide (j < t.length) = false := decide_eq_false c1
        have hil : i < t.length := by have := HIJ.out; omega
        obtain ⟨D', l1, l2, l3, l4⟩ := R_nils f (t.length - i) i D w0 wr (by omega) HB.out HO.out
        have HS := zM (show Kd.S (Kd.slice 3 (Kd.int .i64)) 37 _ w0.heap.size (fun _ => True) (.slice (some ⟨g0, 0, none⟩) i c) (t.filter (fun s => !p s)) by
          have h3 := Kd.R_take l3 (m := i) (by rw [l1, HDL.out]; omega)
          rw [l2, HT.out, hj, List.take_of_length_le (by rw [HZL.out]; omega), ← HZZ.out] at h3
          rw [← keepZ_fst p t 0]
          exact S_of_tags h3 (keepZ_nodup p t))
        have HB2 := zM l4
        have hcl := fun ty => Lib.run_clear_slice (P := Try.prog) wr 34 37 ty (.slice none 0 0) Try.underlying34 HZV.out rfl rfl g0 i (t.length - i) (c - i) (by omega) (fun x hx => by
          obtain ⟨A9, c9, h9, _⟩ := tag_cell HO.out (i + x) (by omega) (D[i + x]'(by rw [HDL.out]; omega)) (List.getElem?_eq_getElem _)
          rw [h9]; rfl) (fun x hx => tag_frozen HO.out (i + x) (by omega))
        have p3 : ((i : Int) ≤ (t.length : Int)) := by omega
        have p4 : i ≤ t.length := by omega
        have p5 : ((i : Int) ≤ (c : Int)) := by have := HCP.out; omega
        have p6 : i ≤ c := by have := HCP.out; omega
        have p7 : t.length ≤ c := HCP.out
        have p8 : i < c := by omega
        have p9 : ¬ c = i := by omega
        have p10 : ¬ i = c := by omega
        have p11 : (c - i = 0) = False := eq_false (by omega)
        have p12 : (c == i) = false := beq_eq_false_iff_ne.mpr p9
        have p13 : (i == c) = false := beq_eq_false_iff_ne.mpr p10
        clear l1 l2 l3 l4 hil HO HB HD HT HX c1 hj p2 q2
        go_wp2
        go_ret
        exact ⟨_, by first | rfl | (simp; done), HS.out, HB2.out⟩
end Go.Proofs.Ytfaeopmofgnbdaa.P
namespace Go.Proofs.Ytfaeopmofgnbdaa.P
open Go.RowKit Go.Proofs.YtfaeopmofgnbdaaW.PrintWords Go.Proofs.YtfaeopmofgnbdaaW.PrintLast Go.Proofs.YtfaeopmofgnbdaaW.PrintMore
attribute [local go_sem] max2_int min2_int max_two min_two max_three min_three max_four min_four   -- for this text's walks alone
set_option linter.unusedVariables false
set_option linter.unusedSimpArgs false

/-! ### impl_Graph_isTight: function 31 -/
def impl_Graph_isTight.l0 : Nat → Int → Int → Int → Int → Int → List (S48) → Option (Bool)
 | 0, _, _, _, _, _, _ => none
 | k + 1, x1, x2, x9, x10, x309000, x309001 => if x10 < x9 then ((impl_bag_has.f x2 x10).bind fun t309 => (if (t309 != (x1 == 2)) = true then (if 0 ≤ x10 then ((impl_Graph_hasKind.f k x309000 x309001 x1 (Go.bits .xor .u64 x2 (shl .u64 1 x10))).bind fun t310 => (if t310 = true then (some false) else (impl_Graph_isTight.l0 k x1 x2 x9 (wrap64 (x10 + 1)) x309000 x309001))) else (none)) else (impl_Graph_isTight.l0 k x1 x2 x9 (wrap64 (x10 + 1)) x309000 x309001))) else (some true)
def impl_Graph_isTight.f (k : Nat) (a0_0 : Int) (l0_1 : List (S48)) (a1 : Int) (a2 : Int) : Option (Bool) := impl_Graph_isTight.l0 k a1 a2 a0_0 0 a0_0 l0_1
def impl_Graph_isTight.T4 : Bool × List (List Nat × List Nat) := (true, [([], []), ([], []), ([0, 1], [0, 1]), ([], []), ([3], [3]), ([2, 4], [2, 4]), ([5, 2], [5]), ([6], [6]), ([6], [6]), ([6], [6]), ([6], [6]), ([10, 6], [6, 10]), ([9, 11, 6], [6, 9, 11]), ([7, 8, 12, 6, 6], [6, 7, 8, 12]), ([6, 13], [6, 13])])
def impl_Graph_isTight.B4 : List Nat := [0, 0, 3, 0, 8, 31, 63, 127, 127, 127, 127, 1151, 3711, 8191, 16383]
theorem impl_Graph_isTight.tab4 : rtab .any (opsOf Try.f31 4) = impl_Graph_isTight.T4 := by kernel_rfl
theorem impl_Graph_isTight.bits4 : waitsOk impl_Graph_isTight.T4.2 impl_Graph_isTight.B4 = true := by kernel_rfl
set_option maxHeartbeats 8000000 in
set_option maxRecDepth 100000 in
theorem impl_Graph_isTight.calls (k : Nat) (a0_0 : Int) (A0_1 : Option Addr) (c0_1 : Nat) (l0_1 : List (S48)) (a1 : Int) (a2 : Int) (r : Bool) (w : World) (hr0_1 : Kd.C k48 w A0_1 l0_1.length l0_1) (hc0_1 : l0_1.length ≤ c0_1) (h : impl_Graph_isTight.f k a0_0 l0_1 a1 a2 = some r) :
 Calls Try.prog 31 #[.agg #[.int .i64 a0_0, .slice A0_1 l0_1.length c0_1], .int .i64 a1, .int .u64 a2] w fun e w' => e = .returned (.bool r) ∧ Below w.heap.size w w' := by
 have hu28 := Try.underlying28
 have HR0_1 := Aside0.mk hr0_1
 have HC0_1 := Aside0.mk hc0_1
 clear hr0_1 hc0_1
 have HB := zM (Below.refl w.heap.size w)
 have H : (impl_Graph_isTight.l0 k a1 a2 a0_0 0 a0_0 l0_1) = some r := h
 clear h
 have H' := Aside0.mk H
 clear H
 go_enter Try.func31, Try.ntmps31
 go_wp2_with (first | ((with_reducible refine gate_dst (N := 3) rfl ?_); refine zb (w := w) 3 #[.int .i64 a0_0, .slice A0_1 l0_1.length c0_1] 28 zB ?_; clear HB; intro gb308 w4 HB BK308 GW308; have GE308 := GW308; have hcz5_0 := zy BK308 0; have hcz5_1 := zy BK308 1; have hfz5_0 := blk_frozen BK308.out 0; have hfz5_1 := blk_frozen BK308.out 1))
 go_loopg [10] k (fun kq v10 w' => ∃ (x10_1 : Int), v10 = .int .i64 x10_1 ∧ Aside0 (impl_Graph_isTight.l0 kq a1 a2 a0_0 x10_1 a0_0 l0_1 = some r) ∧ Aside0 (kq ≤ k) ∧ Aside0 (w'.heap[gb308]? = some (.cells #[.int .i64 a0_0, (.slice A0_1 l0_1.length c0_1)] 28 (0, 0))) ∧ Aside0 (Below w.heap.size w w'))
 case atStart => exact ⟨(0), (by first | rfl | (simp; done) | (simp [*]; done)), H', ⟨Nat.le_refl _⟩, ⟨zK BK308.out⟩, ⟨zB⟩⟩
 case round =>
  clear H'
  try clear p2
  try clear c3
  try clear hcz5_0
  try clear hcz5_1
  try clear hfz5_0
  try clear hfz5_1
  obtain ⟨x10_1, rfl, HA, HK1, BK308, HB⟩ := hrel
  cases gk with
  | zero => exact absurd HA.out (by simp [impl_Graph_isTight.l0])
  | succ k1 =>
   have H := HA.out
   clear HA
   simp only [impl_Graph_isTight.l0] at H
   by_cases c6 : x10_1 < a0_0
   · rw [if_pos c6] at H
     have c6b0 := decide_eq_true c6
     clear c6
     replace H := Option.bind_eq_some_iff.mp H
     obtain ⟨t309, A70, H⟩ := H
     have A7 := Aside0.mk A70
     clear A70
     by_cases c8 : (t309 != (a1 == 2)) = true
     · rw [if_pos c8] at H
       have c8b0 : (t309 != (a1 == 2)) = true := c8
       (try (have c8b1 : decide (t309 = (a1 == 2)) = false := by simpa using c8))
       (try (have c8b2 : (t309 == (a1 == 2)) = false := by simpa using c8))
       (try (have c8b3 : ¬ (t309 = (a1 == 2)) := by simpa using c8))
       clear c8
       by_cases c9 : 0 ≤ x10_1
       · rw [if_pos c9] at H
         have c9b0 := eq_true c9
         have c9b1 : decide (0 ≤ x10_1) = true := decide_eq_true c9
         clear c9
         obtain ⟨ji10, hji10⟩ : ∃ j_ : Int, (shl .u64 1 x10_1) = j_ := ⟨_, rfl⟩
         replace H : ((impl_Graph_hasKind.f k1 a0_0 l0_1 a1 (Go.bits .xor .u64 a2 (ji10))).bind fun t310 => (if t310 = true then (some false) else (impl_Graph_isTight.l0 k1 a1 a2 a0_0 (wrap64 (x10_1 + 1)) a0_0 l0_1))) = some r := by first | (rw [hji10] at H; exact H) | (simp only [hji10] at H ⊢; exact H)
         (try rw [hji10] at A7)
         have hji10_ : (IntKind.u64.wrap (1 * 2 ^ min x10_1.toNat 64)) = ji10 := hji10
         have hji10z : x10_1 ≤ 64 → (IntKind.u64.wrap (1 * 2 ^ x10_1.toNat)) = ji10 := shl_small hji10
         have hji10u : (IntKind.u64.wrap (2 ^ min x10_1.toNat 64)) = ji10 := by have h_ := hji10_; rw [Int.one_mul] at h_; exact h_
         have hji10v : x10_1 ≤ 64 → (IntKind.u64.wrap (2 ^ x10_1.toNat)) = ji10 := fun hle_ => by have h_ := hji10z hle_; rw [Int.one_mul] at h_; exact h_
         replace H := Option.bind_eq_some_iff.mp H
         obtain ⟨t310, A110, H⟩ := H
         have A11 := Aside0.mk A110
         clear A110
         by_cases c12 : t310 = true
         · subst c12
           rw [if_pos rfl] at H
           obtain rfl := Option.some.inj H
           try go_wp2
           replace BK308 := zM (blk_drew BK308.out)
           replace HB := zM (below_drew1 HB.out)
           refine zs (n := 15) (fun w' => w'.cell? ⟨gb308, 0, none⟩ = some (.int .i64 a0_0) ∧ w'.cell? ⟨gb308, 1, none⟩ = some (.slice A0_1 l0_1.length c0_1)) ⟨(blk_cell BK308.out 0).trans rfl, (blk_cell BK308.out 1).trans rfl⟩ (fun hHeld => ?_); refine with_tabW impl_Graph_isTight.tab4 impl_Graph_isTight.bits4 (fun HT_ HW_ => ?_)
           generalize wr.drew = w13 at BK308 HB hHeld ⊢
           refine zp HT_ 0 13 ?_
           refine zp HT_ 1 14 ?_
           refine zp HT_ 3 16 ?_
           refine zp HT_ 4 17 ?_
           refine zg HT_ 2 15 Try.func48 #[.int .u64 a2, .int .i64 x10_1] (fun K hK => ?_)
           with_reducible refine (impl_bag_has.calls a2 x10_1 t309 _ A7.out).mono ?_
           rintro e w' ⟨rfl, ⟨nd, rfl⟩⟩
           refine ⟨_, rfl, ?_⟩
           refine hK.out _ _ ⟨(blk_cell BK308.out 0).trans rfl, (blk_cell BK308.out 1).trans rfl⟩ (fun hHeld => ?_)
           clear hK K
           refine zn 15 ?_
           refine zp HT_ 5 18 ?_
           refine zp HT_ 6 19 ?_
           refine zp HT_ 8 21 ?_
           refine zp HT_ 9 22 ?_
           refine zp HT_ 10 23 ?_
           refine zp HT_ 11 24 ?_
           refine zp HT_ 12 25 ?_
           refine zt HT_ HW_ 7 20 hHeld ?_ (hy := by rintro w' ⟨s0, s1⟩; go_simp; with_reducible rfl)
           refine one_ (i := 13) (N := some 26) #[true, true, true, true, true, true, true, true, true, true, true, true, true, true, false] rfl rfl (one_of HT_.out (by kernel_rfl)) (by decide) (fun K hK => ?_)
           refine goes_ Try.func45 (by kernel_rfl) rfl #[.agg #[.int .i64 a0_0, .slice A0_1 l0_1.length c0_1], .int .i64 a1, .int .u64 (Go.bits .xor .u64 a2 (ji10))] (by rfl) rfl rfl (by (try simp only [List.map_toArray, List.map_cons, List.map_nil]); first | done | (simp only [hji10]; rfl) | rfl | (simp only [List.length_drop, List.length_take]; rfl)) ?_
           with_reducible refine (impl_Graph_hasKind.calls k1 a0_0 _ _ l0_1 a1 (Go.bits .xor .u64 a2 (ji10)) true _ ?side1 ?side2 A11.out).mono ?_
           (case side1 => exact zC (Kd.C_below HR0_1.out zB))
           (case side2 => exact HC0_1.out)
           rintro e w14 ⟨rfl, hb⟩
           refine ⟨_, rfl, ?_⟩
           replace BK308 := zM (blk_below (g := gb308) (o := .cells #[.int .i64 a0_0, .slice A0_1 l0_1.length c0_1] 28 (0, 0)) (zK BK308.out) hb)
           replace HB := zM (below_step zB hb)
           (try clear hb)
           (try clear hb2)
           (try clear hk)
           (try clear hi)
           refine hK.out _ _ ⟨(blk_cell BK308.out 0).trans rfl, (blk_cell BK308.out 1).trans rfl⟩ (fun hHeld => ?_)
           clear hK K
           refine zn 26 ?_
           refine zp HT_ 14 27 ?_
           refine zo HT_ ?_
           try go_wp2
           go_ret
           exact ⟨by first | rfl | (simp [errW_none, errW_some] <;> rfl) | (simp only [← hji10]; first | rfl | (simp [errW_none, errW_some] <;> rfl)) | (simp [*, errW_none, errW_some] <;> rfl), zB⟩
         · replace c12 := Bool.eq_false_iff.mpr c12
           subst c12
           have H1 : (impl_Graph_isTight.l0 k1 a1 a2 a0_0 (wrap64 (x10_1 + 1)) a0_0 l0_1) = some r := by rw [if_neg (show ¬ (false = true) by decide)] at H; exact H
           clear H
           have H := H1
           clear H1
           have H' := Aside0.mk H
           clear H
           try go_wp2
           replace BK308 := zM (blk_drew BK308.out)
           replace HB := zM (below_drew1 HB.out)
           refine zs (n := 15) (fun w' => w'.cell? ⟨gb308, 0, none⟩ = some (.int .i64 a0_0) ∧ w'.cell? ⟨gb308, 1, none⟩ = some (.slice A0_1 l0_1.length c0_1)) ⟨(blk_cell BK308.out 0).trans rfl, (blk_cell BK308.out 1).trans rfl⟩ (fun hHeld => ?_); refine with_tabW impl_Graph_isTight.tab4 impl_Graph_isTight.bits4 (fun HT_ HW_ => ?_)
           generalize wr.drew = w15 at BK308 HB hHeld ⊢
           refine zp HT_ 0 13 ?_
           refine zp HT_ 1 14 ?_
           refine zp HT_ 3 16 ?_
           refine zp HT_ 4 17 ?_
           refine zg HT_ 2 15 Try.func48 #[.int .u64 a2, .int .i64 x10_1] (fun K hK => ?_)
           with_reducible refine (impl_bag_has.calls a2 x10_1 t309 _ A7.out).mono ?_
           rintro e w' ⟨rfl, ⟨nd, rfl⟩⟩
           refine ⟨_, rfl, ?_⟩
           refine hK.out _ _ ⟨(blk_cell BK308.out 0).trans rfl, (blk_cell BK308.out 1).trans rfl⟩ (fun hHeld => ?_)
           clear hK K
           refine zn 15 ?_
           refine zp HT_ 5 18 ?_
           refine zp HT_ 6 19 ?_
           refine zp HT_ 8 21 ?_
           refine zp HT_ 9 22 ?_
           refine zp HT_ 10 23 ?_
           refine zp HT_ 11 24 ?_
           refine zp HT_ 12 25 ?_
           refine zt HT_ HW_ 7 20 hHeld ?_ (hy := by rintro w' ⟨s0, s1⟩; go_simp; with_reducible rfl)
           refine one_ (i := 13) (N := some 26) #[true, true, true, true, true, true, true, true, true, true, true, true, true, true, false] rfl rfl (one_of HT_.out (by kernel_rfl)) (by decide) (fun K hK => ?_)
           refine goes_ Try.func45 (by kernel_rfl) rfl #[.agg #[.int .i64 a0_0, .slice A0_1 l0_1.length c0_1], .int .i64 a1, .int .u64 (Go.bits .xor .u64 a2 (ji10))] (by rfl) rfl rfl (by (try simp only [List.map_toArray, List.map_cons, List.map_nil]); first | done | (simp only [hji10]; rfl) | rfl | (simp only [List.length_drop, List.length_take]; rfl)) ?_
           with_reducible refine (impl_Graph_hasKind.calls k1 a0_0 _ _ l0_1 a1 (Go.bits .xor .u64 a2 (ji10)) false _ ?side1 ?side2 A11.out).mono ?_
           (case side1 => exact zC (Kd.C_below HR0_1.out zB))
           (case side2 => exact HC0_1.out)
           rintro e w16 ⟨rfl, hb⟩
           refine ⟨_, rfl, ?_⟩
           replace BK308 := zM (blk_below (g := gb308) (o := .cells #[.int .i64 a0_0, .slice A0_1 l0_1.length c0_1] 28 (0, 0)) (zK BK308.out) hb)
           replace HB := zM (below_step zB hb)
           (try clear hb)
           (try clear hb2)
           (try clear hk)
           (try clear hi)
           refine hK.out _ _ ⟨(blk_cell BK308.out 0).trans rfl, (blk_cell BK308.out 1).trans rfl⟩ (fun hHeld => ?_)
           clear hK K
           refine zn 26 ?_
           refine zp HT_ 14 27 ?_
           refine zo HT_ ?_
           try go_wp2
           go_roundg k1
           case measure => have := HK1.out; omega
           case rel => exact ⟨(wrap64 (x10_1 + 1)), (by first | rfl | (simp; done) | (simp [*]; done)), H', ⟨by have := HK1.out; omega⟩, ⟨zK BK308.out⟩, ⟨zB⟩⟩
       · rw [if_neg c9] at H
         exact absurd H (by simp)
     · rw [if_neg c8] at H
       have c8b0 : (t309 != (a1 == 2)) = false := by simpa using c8
       (try (have c8b1 : decide (t309 = (a1 == 2)) = true := by simpa using c8))
       (try (have c8b2 : (t309 == (a1 == 2)) = true := by simpa using c8))
       clear c8
       have H' := Aside0.mk H
       clear H
       try go_wp2
       replace BK308 := zM (blk_drew BK308.out)
       replace HB := zM (below_drew1 HB.out)
       refine zs (n := 15) (fun w' => True) trivial (fun hHeld => ?_); refine with_tabW impl_Graph_isTight.tab4 impl_Graph_isTight.bits4 (fun HT_ HW_ => ?_)
       generalize wr.drew = w17 at BK308 HB hHeld ⊢
       refine zp HT_ 0 13 ?_
       refine zp HT_ 1 14 ?_
       refine zp HT_ 3 16 ?_
       refine zp HT_ 4 17 ?_
       refine zg HT_ 2 15 Try.func48 #[.int .u64 a2, .int .i64 x10_1] (fun K hK => ?_)
       with_reducible refine (impl_bag_has.calls a2 x10_1 t309 _ A7.out).mono ?_
       rintro e w' ⟨rfl, ⟨nd, rfl⟩⟩
       refine ⟨_, rfl, ?_⟩
       refine hK.out _ _ trivial (fun hHeld => ?_)
       clear hK K
       refine zn 15 ?_
       refine zp HT_ 5 18 ?_
       refine zp HT_ 6 19 ?_
       refine zu HT_ 7 20 ?_
       refine zu HT_ 8 21 ?_
       refine zu HT_ 9 22 ?_
       refine zu HT_ 10 23 ?_
       refine zu HT_ 11 24 ?_
       refine zu HT_ 12 25 ?_
       refine zu HT_ 13 26 ?_
       refine zp HT_ 14 27 ?_
       refine zo HT_ ?_
       try go_wp2
       go_roundg k1
       case measure => have := HK1.out; omega
       case rel => exact ⟨(wrap64 (x10_1 + 1)), (by first | rfl | (simp; done) | (simp [*]; done)), H', ⟨by have := HK1.out; omega⟩, ⟨zK BK308.out⟩, ⟨zB⟩⟩
   · rw [if_neg c6] at H
     have c6b0 : decide (x10_1 < a0_0) = false := decide_eq_false c6
     clear c6
     obtain rfl := Option.some.inj H
     go_wp2
     go_ret
     exact ⟨by first | rfl | (simp [errW_none, errW_some] <;> rfl) | (simp [*, errW_none, errW_some] <;> rfl), zB⟩

end Go.Proofs.Ytfaeopmofgnbdaa.P
namespace Go.Proofs.Ytfaeopmofgnbdaa.P
open Go.RowKit Go.Proofs.YtfaeopmofgnbdaaW.PrintWords Go.Proofs.YtfaeopmofgnbdaaW.PrintLast Go.Proofs.YtfaeopmofgnbdaaW.PrintMore
set_option linter.unusedVariables false
set_option linter.unusedSimpArgs false
def tight1 (k : Nat) (a0 : Int) (l1 : List S48) (kind : Int) (s : List Int) : Option Bool := (impl_bagOf.f k s).bind fun b => impl_Graph_isTight.f k a0 l1 kind b
set_option maxHeartbeats 1000000 in
theorem tight1_any (ga gk : Nat) (a0 : Int) (A1 : Option Addr) (c1 : Nat) (l1 : List S48) (kind : Int) (k : Nat) (s : List Int) (As : Option Addr) (cs : Nat) (r : Bool) (hf : tight1 k a0 l1 kind s = some r) (W : World) (hg0 : W.cell? ⟨ga, 0, none⟩ = some (.int .i64 a0)) (hg1 : W.cell? ⟨ga, 1, none⟩ = some (.slice A1 l1.length c1)) (hk : W.cell? ⟨gk, 0, none⟩ = some (.int .i64 kind)) (hr : Kd.C k48 W A1 l1.length l1) (hc : l1.length ≤ c1)
    (hrs : Kd.C (Kd.int .i64) W As s.length s) (hcs : s.length ≤ cs) :
    Calls Try.prog 30 (#[.slice As s.length cs] ++ #[.pointer (some ⟨ga, 0, none⟩), .pointer (some ⟨gk, 0, none⟩)]) W fun e w' => e = .returned (.bool (!r)) ∧ Below W.heap.size W w' := by
  have hu := Try.underlying28
  obtain ⟨b, hb0, hf⟩ := Option.bind_eq_some_iff.mp hf
  have HF1 := zM hb0
  have HF2 := zM hf
  have HR := zM hr
  have HC := zM hc
  have HRS := zM hrs
  have HCS := zM hcs
  clear hf hb0 hr hc hrs hcs
  show Calls Try.prog 30 #[.slice As s.length cs, .pointer (some ⟨ga, 0, none⟩), .pointer (some ⟨gk, 0, none⟩)] W _
  go_enter Try.func30, Try.ntmps30
  go_upto_region 1 with (fail)
  (try simp only [Act.put, List.setIfInBounds_toArray, List.set_cons_zero, List.set_cons_succ])
  refine zs (n := 7) (fun w' => w'.cell? ⟨ga, 0, none⟩ = some (.int .i64 a0) ∧ w'.cell? ⟨ga, 1, none⟩ = some (.slice A1 l1.length c1) ∧ w'.cell? ⟨gk, 0, none⟩ = some (.int .i64 kind)) ⟨hg0, hg1, hk⟩ (fun hHeld => ?_)
  have HB := zM (below_drew (Below.refl W.heap.size W))
  generalize W.drew = W1 at HB hHeld ⊢
  refine zl 0 5 hHeld ?_ (hy := by rintro w' ⟨s0, s1, s2⟩; go_simp; with_reducible rfl)
  refine zl 1 6 hHeld ?_ (hy := by rintro w' ⟨s0, s1, s2⟩; go_simp; with_reducible rfl)
  refine zq 2 7 ?_
  refine zh 3 8 Try.func32 #[.slice As s.length cs] (fun K hK => ?_)
  refine (impl_bagOf.calls k As cs s b _ (Kd.C_below HRS.out HB.out) HCS.out HF1.out).mono ?_
  rintro e w1 ⟨rfl, hd⟩
  have hb := Drawn0.below hd
  refine ⟨_, rfl, ?_⟩
  refine hK.out _ _ ⟨pw_cell_below hb hHeld.1, pw_cell_below hb hHeld.2.1, pw_cell_below hb hHeld.2.2⟩ (fun hHeld => ?_)
  replace HB := zM (below_step HB.out hb)
  clear hK K hd hb
  refine zn 8 ?_
  refine zh 4 9 Try.func31 #[.agg #[.int .i64 a0, .slice A1 l1.length c1], .int .i64 kind, .int .u64 b] (fun K hK => ?_)
  refine (impl_Graph_isTight.calls k a0 A1 c1 l1 kind b r _ (Kd.C_below HR.out HB.out) HC.out HF2.out).mono ?_
  rintro e w2 ⟨rfl, hb⟩
  refine ⟨_, rfl, ?_⟩
  refine hK.out _ _ ⟨pw_cell_below hb hHeld.1, pw_cell_below hb hHeld.2.1, pw_cell_below hb hHeld.2.2⟩ (fun hHeld => ?_)
  replace HB := zM (below_step HB.out hb)
  clear hK K hb
  refine zn 9 ?_
  refine zq 5 10 ?_
  refine zq 6 4 ?_
  refine zx ?_
  (try go_wp2)
  go_ret
  exact ⟨by first | rfl | (simp; done), HB.out⟩
def tightOk (k : Nat) (a0 : Int) (l1 : List S48) (kind : Int) (t : List (List Int)) : Bool := t.all (fun s => (tight1 k a0 l1 kind s).isSome) && decide (t.length ≤ 1048576)
def tightP (k : Nat) (a0 : Int) (l1 : List S48) (kind : Int) (s : List Int) : Bool := (tight1 k a0 l1 kind s).getD false
def impl_Graph_tight.f (k : Nat) (a0_0 : Int) (l0_1 : List S48) (a1 : Int) : Option (List (List Int)) := (impl_Graph_ofKind.f k a0_0 l0_1 a1).bind fun t => if tightOk k a0_0 l0_1 a1 t = true then some (t.filter (tightP k a0_0 l0_1 a1)) else none
set_option maxRecDepth 100000 in
set_option maxHeartbeats 2000000 in
theorem impl_Graph_tight.calls (k : Nat) (a0_0 : Int) (A0_1 : Option Addr) (c0_1 : Nat) (l0_1 : List (S48)) (a1 : Int) (r : List (List Int)) (w : World) (hr0_1 : Kd.C k48 w A0_1 l0_1.length l0_1) (hc0_1 : l0_1.length ≤ c0_1) (h : impl_Graph_tight.f k a0_0 l0_1 a1 = some r) :
    Calls Try.prog 18 #[.agg #[.int .i64 a0_0, .slice A0_1 l0_1.length c0_1], .int .i64 a1] w fun e w' => ∃ v0_ : Value, e = .returned (v0_) ∧ Kd.S (Kd.slice 3 (Kd.int .i64)) 37 w' w.heap.size (fun _ => True) v0_ r ∧ Below w.heap.size w w' := by
  have hu43 := Try.underlying28
  unfold impl_Graph_tight.f at h
  obtain ⟨t, ht, h⟩ := Option.bind_eq_some_iff.mp h
  by_cases c : tightOk k a0_0 l0_1 a1 t = true
  case neg => rw [if_neg c] at h; cases h
  rw [if_pos c] at h
  have HE := zM (Option.some.inj h)
  have HR := zM hr0_1
  have HC := zM hc0_1
  have HT := zM ht
  unfold tightOk at c
  rw [Bool.and_eq_true, List.all_eq_true] at c
  have HO := zM c.1
  have HL := zM (of_decide_eq_true c.2)
  clear h hr0_1 hc0_1 c ht
  have HP := fun (W : World) (ga gk : Nat) (hg0 : W.cell? ⟨ga, 0, none⟩ = some (.int .i64 a0_0)) (hg1 : W.cell? ⟨ga, 1, none⟩ = some (.slice A0_1 l0_1.length c0_1)) (hk : W.cell? ⟨gk, 0, none⟩ = some (.int .i64 a1)) (hr : Kd.C k48 W A0_1 l0_1.length l0_1) =>
    zM (show PredL 30 #[.pointer (some ⟨ga, 0, none⟩), .pointer (some ⟨gk, 0, none⟩)] (fun s => !tightP k a0_0 l0_1 a1 s) t W from fun W' s A c hs hb hrs hcs => by
      obtain ⟨v, hv⟩ := Option.isSome_iff_exists.1 (HO.out s hs)
      have := tight1_any ga gk a0_0 A0_1 c0_1 l0_1 a1 k s A c v hv W' (pw_cell_below hb hg0) (pw_cell_below hb hg1) (pw_cell_below hb hk) (Kd.C_below hr hb) HC.out hrs hcs
      have e : tightP k a0_0 l0_1 a1 s = v := by unfold tightP; rw [hv]; rfl
      subst e
      exact this)
  have HB1 := zM (below_alloc (below_alloc (Below.refl w.heap.size w) (.cells #[.int .i64 a0_0, .slice A0_1 l0_1.length c0_1] 28)) (.cells #[.int .i64 a1] 3))
  go_enter Try.func18, Try.ntmps18
  go_wp2_with (first
    | (go_at_call 29; refine (impl_Graph_ofKind.calls k a0_0 A0_1 c0_1 l0_1 a1 t _ (Kd.C_below HR.out HB1.out) HC.out HT.out).mono ?_; rintro e w3 ⟨v3, rfl, ho, hb⟩; have HS := zM ho; have HB3 := zM hb; clear ho hb)
    | (go_at_call 28; refine (delete_calls _ _ (enters_of Try.func30 (by kernel_rfl) rfl) _ t _ (HP _ _ _ (by go_simp) (by go_simp) (by go_simp) (Kd.C_below HR.out HB1.out)).out v3 _ HB3.out HS.out HL.out).mono ?_; rintro e w4 ⟨v4, rfl, ho, hb⟩; have HS4 := zM (Kd.S_lower ho (below_size HB1.out)); have HB4 := zM (below_step HB1.out hb); clear ho hb))
  go_ret
  refine ⟨_, rfl, ?_, HB4.out⟩
  have h := HS4.out
  have e : (t.filter fun s => !(!tightP k a0_0 l0_1 a1 s)) = t.filter (tightP k a0_0 l0_1 a1) := List.filter_congr (fun s _ => by rw [Bool.not_not])
  rw [e, HE.out] at h
  exact h
end Go.Proofs.Ytfaeopmofgnbdaa.P
