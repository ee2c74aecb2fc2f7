/- All independent sets of some numbers of nodes, as both sides list them. -/
import Derived.Test.YtadjbmcfgjmhkaaSlideSpaceG18
import Derived.Test.YtadjbmcfgjmhkaaSlideSpaceG14
import Derived.Test.YtadjbmcfgjmhkaaSlideSpaceG11
import Derived.Test.YtadjbmcfgjmhkaaSlideSpaceG16
import Derived.Test.YtadjbmcfgjmhkaaSlideSpaceG13
import Derived.Laws.BitsLemmas
import Derived.Test.YtadjbmcfgjmhkaaSlideSpaceG15
import Derived.Test.YtadjbmcfgjmhkaaSlideSpaceG17
import Derived.Test.YtadjbmcfgjmhkaaSlideSpaceG12
namespace Go.Proofs.Ytadjbmcfgjmhkaa.P
open Go.RowKit Go.Proofs.YtadjbmcfgjmhkaaW.PrintWords Go.Proofs.YtadjbmcfgjmhkaaW.PrintLast Go.Proofs.YtadjbmcfgjmhkaaW.PrintMore
set_option linter.unusedVariables false
set_option linter.unusedSimpArgs false

def freeQ (e : List S70) (lo hi b : Int) : Bool := (decide (lo ≤ ((bagL b).length : Int)) && decide (((bagL b).length : Int) ≤ hi)) && freeI e (bagL b)
/-- The independent sets with lo to hi nodes, in order. -/
def freeS (n : Nat) (e : List S70) (lo hi : Int) : List (List Int) := sortLL (codesL (freeQ e lo hi) (2 ^ n))
theorem freeS_mem {n : Nat} (hn : n ≤ 8) (e : List S70) (lo hi : Int) (s : List Int) : s ∈ freeS n e lo hi ↔ SetN n s ∧ (lo ≤ (s.length : Int) ∧ (s.length : Int) ≤ hi) ∧ freeI e s = true := by
  unfold freeS
  rw [sortLL_mem, codes_mem hn]
  refine and_congr_right fun h => ?_
  unfold freeQ
  rw [(h.code hn).2, Bool.and_eq_true, Bool.and_eq_true, decide_eq_true_eq, decide_eq_true_eq]
theorem freeS_lex {n : Nat} (hn : n ≤ 8) (e : List S70) (lo hi : Int) : LexS (freeS n e lo hi) := sortLL_lex _ (codes_nodup (Nat.pow_le_pow_right (n := 2) (by decide) (show n ≤ 8 from hn)) _)
theorem freeS_len {n : Nat} (hn : n ≤ 8) (e : List S70) (lo hi : Int) : (freeS n e lo hi).length ≤ 256 := by
  unfold freeS
  rw [sortLL_len]
  exact Nat.le_trans (codesL_len _ _) (Nat.pow_le_pow_right (n := 2) (by decide) (show n ≤ 8 from hn))
section
variable (n : Nat) (hn : n ≤ 8) (e : List S70) (he : e.length ≤ 1048576) (hg : okG (n : Int) e = true) (lo hi : Int)
include hn he hg
theorem freeP_eq (b : Int) (hb : 0 ≤ b ∧ b < 256) : freeP e lo hi b = freeQ e lo hi b := by
  have _hu := he
  have h1 := okG_all hg
  unfold freeP freeQ freeI
  congr 2
  refine any_congr e _ _ fun s hs => ?_
  have h2 := h1.2.2 s hs
  unfold bothB
  rw [bag_has_at (by omega), bag_has_at (by omega), Option.getD_some, Option.getD_some]
  have hm : ∀ x : Int, 0 ≤ x → x < 8 → hasI b x = decide (x ∈ bagL b) := fun x h0 h8 => by
    rw [Bool.eq_iff_iff, decide_eq_true_eq, selI_mem]
    exact ⟨fun h => ⟨by omega, h⟩, fun h => h.2⟩
  rw [hm _ (by omega) (by omega), hm _ (by omega) (by omega)]
theorem free_ev : impl_Graph_free.f (n : Int) e lo hi = some (freeS n e lo hi) := by
  have h1 := okG_all hg
  have hpow : 2 ^ n ≤ 256 := Nat.pow_le_pow_right (n := 2) (by decide) (show n ≤ 8 from hn)
  unfold impl_Graph_free.f freeS
  rw [if_pos ⟨by omega, by
    unfold edgesOk
    rw [List.all_eq_true]
    intro s hs
    have := h1.2.2 s hs
    rw [decide_eq_true (show 0 ≤ s.f0 by omega), decide_eq_true (show 0 ≤ s.f1 by omega)]
    rfl⟩, Int.toNat_natCast]
  unfold codesL
  rw [selI_congr (freeP e lo hi) (freeQ e lo hi) (2 ^ n) 0 fun z h0 h2 => freeP_eq n hn e he hg lo hi z ⟨h0, by omega⟩]
theorem l3_codes (d : Nat) : ∀ m : Nat, 2 ^ n - m = d → m ≤ 2 ^ n → Ev (fun k => spec_l3Sets.l0 k lo hi (codesL (freeQ e lo hi) m) (m : Int) (n : Int) e) (freeS n e lo hi) := by
  have hpow : 2 ^ n ≤ 256 := Nat.pow_le_pow_right (n := 2) (by decide) (show n ≤ 8 from hn)
  have h1 := okG_all hg
  have hu : ∀ s ∈ e, s.f0 < s.f1 := fun s hs => (h1.2.2 s hs).2.1
  have hw : wrap64 ((n : Int) - 1) = (n : Int) - 1 := wrap_nat (by omega) (by omega)
  have hsh : shl .i64 1 (n : Int) = ((2 ^ n : Nat) : Int) := by
    have : ∀ i : Fin 9, shl .i64 1 i = ((2 ^ i.val : Nat) : Int) := by decide +kernel
    exact this ⟨n, by omega⟩
  induction d with
  | zero =>
    intro m h0 h1
    have hm : m = 2 ^ n := by omega
    subst hm
    refine Ev.step (fun k => by rw [spec_l3Sets.l0]) ?_
    refine Ev.pos (by omega) ?_
    rw [hsh]
    refine Ev.neg (by omega) ?_
    refine Ev.bind (l2Sorted_nodup _ (by have := codesL_len (freeQ e lo hi) (2 ^ n); omega) (fun s hs => by
      have := (((codes_mem hn _ s).1 hs).1).len
      omega) (codes_nodup hpow _)) (Ev.now _)
  | succ d ih =>
    intro m h0 h1
    have hb : 0 ≤ (m : Int) ∧ (m : Int) < ((2 ^ n : Nat) : Int) := by omega
    have hset := bagL_set hn hb
    have hlen := hset.len
    have h5 := ih (m + 1) (by omega) (by omega)
    rw [codesL_succ, ← wrap_up (show m < 2 ^ n by omega) (by omega)] at h5
    have hcl := codesL_len (freeQ e lo hi) m
    have hf := l3Free_ev (n : Int) e (bagL (m : Int)) he (by omega)
    rw [freeN_freeI e _ _ hu, hw, hset.ris, Bool.true_and] at hf
    refine Ev.step (fun k => by rw [spec_l3Sets.l0]) ?_
    refine Ev.pos (by omega) ?_
    rw [hsh]
    refine Ev.pos hb.2 ?_
    refine Ev.bind (bits_ev n (m : Int) hn hb) ?_
    refine Ev.bindo (in_at _ _ _) ?_
    cases c1 : (decide (lo ≤ ((bagL (m : Int)).length : Int)) && decide (((bagL (m : Int)).length : Int) ≤ hi)) with
    | true =>
      refine Ev.pos rfl ?_
      refine Ev.bind hf ?_
      cases c2 : freeI e (bagL (m : Int)) with
      | true =>
        rw [if_pos (by unfold freeQ; rw [c1, c2]; rfl)] at h5
        refine Ev.pos rfl ?_
        refine Ev.pos (by omega) ?_
        exact h5
      | false =>
        rw [if_neg (by unfold freeQ; rw [c2, Bool.and_false]; decide), List.append_nil] at h5
        refine Ev.neg (by decide) ?_
        exact h5
    | false =>
      rw [if_neg (by unfold freeQ; rw [c1, Bool.false_and]; decide), List.append_nil] at h5
      refine Ev.neg (by decide) ?_
      exact h5
theorem l3Sets_ev : Ev (fun k => spec_l3Sets.f k (n : Int) e lo hi) (freeS n e lo hi) := by
  have h := l3_codes n hn e he hg lo hi (2 ^ n) 0 (Nat.sub_zero _) (Nat.zero_le _)
  unfold spec_l3Sets.f
  rw [show codesL (freeQ e lo hi) 0 = [] from rfl] at h
  simpa only [Int.natCast_zero] using h
end
end Go.Proofs.Ytadjbmcfgjmhkaa.P
namespace Go.Proofs.Ytadjbmcfgjmhkaa.P
open Go.RowKit Go.Proofs.YtadjbmcfgjmhkaaW.PrintWords Go.Proofs.YtadjbmcfgjmhkaaW.PrintLast Go.Proofs.YtadjbmcfgjmhkaaW.PrintMore
set_option linter.unusedVariables false
set_option linter.unusedSimpArgs false

theorem l3Ask_ev (a : Int) (e : List S70) (k0 : Int) (he : e.length ≤ 1048576) : Ev (fun k => spec_l3Ask.f k a e k0) (okG a e && (decide (0 ≤ k0) && decide (k0 ≤ 8))) := by
  unfold spec_l3Ask.f
  refine Ev.bind (l2Good_ev a e he) ?_
  cases h : okG a e with
  | true => exact Ev.pos rfl (Ev.bindo (in_at _ _ _) (by rw [Bool.true_and]; exact Ev.now _))
  | false => exact Ev.neg (by decide) (Ev.now _)
/-- What IndependentSets answers. -/
def indR (a : Int) (e : List S70) (k0 : Int) : List (List Int) × Bool := if (okG a e && (decide (0 ≤ k0) && decide (k0 ≤ 8))) = true then (freeS a.toNat e k0 k0, true) else ([], false)
theorem indR_pos {a : Int} {e : List S70} {k0 : Int} (hg : okG a e = true) (c : (decide (0 ≤ k0) && decide (k0 ≤ 8)) = true) : indR a e k0 = (freeS a.toNat e k0 k0, true) := if_pos (by rw [hg, c]; rfl)
theorem indR_neg {a : Int} {e : List S70} {k0 : Int} (c : ¬ (okG a e && (decide (0 ≤ k0) && decide (k0 ≤ 8))) = true) : indR a e k0 = ([], false) := if_neg c
theorem impl_ind_ev (a : Int) (e : List S70) (k0 : Int) (he : e.length ≤ 1048576) : Ev (fun k => impl_IndependentSets.f k a e k0) (indR a e k0) := by
  by_cases hg : okG a e = true
  · have h1 := okG_all hg
    by_cases c : (decide (0 ≤ k0) && decide (k0 ≤ 8)) = true
    · rw [indR_pos hg c]
      obtain ⟨n, rfl⟩ := Int.eq_ofNat_of_zero_le h1.1
      unfold impl_IndependentSets.f
      refine Ev.bind (impl_IsGraph_ev _ e he) ?_
      refine Ev.pos hg ?_
      refine Ev.bindo (between_at _ _ _) ?_
      refine Ev.pos c ?_
      rw [Int.toNat_natCast]
      exact Ev.bindo (free_ev n (by omega) e he hg k0 k0) (Ev.now _)
    · rw [indR_neg (by rw [hg, Bool.true_and]; exact c)]
      unfold impl_IndependentSets.f
      refine Ev.bind (impl_IsGraph_ev _ e he) ?_
      refine Ev.pos hg ?_
      refine Ev.bindo (between_at _ _ _) ?_
      exact Ev.neg c (Ev.now _)
  · rw [indR_neg (by rw [Bool.and_eq_true]; exact fun h => hg h.1)]
    unfold impl_IndependentSets.f
    refine Ev.bind (impl_IsGraph_ev _ e he) ?_
    exact Ev.neg hg (Ev.now _)
end Go.Proofs.Ytadjbmcfgjmhkaa.P
namespace Go.Proofs.Ytadjbmcfgjmhkaa.P
open Go.RowKit Go.Proofs.YtadjbmcfgjmhkaaW.PrintWords Go.Proofs.YtadjbmcfgjmhkaaW.PrintLast Go.Proofs.YtadjbmcfgjmhkaaW.PrintMore
set_option linter.unusedVariables false
set_option linter.unusedSimpArgs false

theorem wrap8_ (n : Int) (h0 : 0 ≤ n) (h1 : n < 2 ^ 8) : IntKind.u64.wrap n = n := by
  simp [IntKind.wrap, IntKind.bits, IntKind.signed]
  omega
theorem hasI_bit_ (n y : Nat) (hn : n < 256) (hy : y < 8) : hasI (n : Int) (y : Int) = n.testBit y := by
  unfold hasI shr
  have e : (n : Int) / 2 ^ min (y : Int).toNat IntKind.u64.bits = ((n / 2 ^ y : Nat) : Int) := by
    rw [Int.toNat_natCast, Nat.min_eq_left (by show y ≤ 64; omega)]
    simp
  rw [e, show (1 : Int) = ((1 : Nat) : Int) from rfl, (bits_nat .u64 8 (by decide) wrap8_ (n / 2 ^ y) 1 (Nat.lt_of_le_of_lt (Nat.div_le_self _ _) hn) (by decide)).1, Nat.and_one_is_mod, Nat.testBit_eq_decide_div_mod_eq, Bool.eq_iff_iff, beq_iff_eq, decide_eq_true_eq]
  omega
theorem less_nat (n m : Nat) (hn : n < 256) (hm : m < 256) : ∃ q : Nat, lessI (n : Int) (m : Int) = (q : Int) ∧ q < 256 ∧ ∀ y : Nat, q.testBit y = (n.testBit y && !m.testBit y) ∨ 8 ≤ y := by
  have h1 : (BitVec.ofNat 64 n &&& ~~~ BitVec.ofNat 64 m).toNat ≤ n := by
    rw [BitVec.toNat_and, BitVec.toNat_ofNat, Nat.mod_eq_of_lt (by omega)]
    exact Nat.and_le_left
  refine ⟨(BitVec.ofNat 64 n &&& ~~~ BitVec.ofNat 64 m).toNat, ?_, by omega, fun y => ?_⟩
  · unfold lessI
    simp only [bits, BitVec.ofInt_natCast]
    exact wrap8_ _ (Int.natCast_nonneg _) (by
      have h2 : (BitVec.ofNat IntKind.u64.bits n &&& ~~~ BitVec.ofNat IntKind.u64.bits m).toNat ≤ n := h1
      have h3 : (2 : Int) ^ 8 = 256 := by decide
      rw [h3]
      omega)
  · by_cases hy : 8 ≤ y
    · exact .inr hy
    · left
      rw [BitVec.testBit_toNat, BitVec.getLsbD_and, BitVec.getLsbD_not, BitVec.getLsbD_ofNat, BitVec.getLsbD_ofNat]
      have : y < 64 := by omega
      simp [this]
theorem less_at {b c : Int} (hb : 0 ≤ b ∧ b < 256) (hc : 0 ≤ c ∧ c < 256) : (0 ≤ lessI b c ∧ lessI b c < 256) ∧ ∀ y, 0 ≤ y → y < 8 → hasI (lessI b c) y = (hasI b y && !hasI c y) := by
  obtain ⟨n, rfl⟩ := Int.eq_ofNat_of_zero_le hb.1
  obtain ⟨m, rfl⟩ := Int.eq_ofNat_of_zero_le hc.1
  obtain ⟨q, h1, h2, h3⟩ := less_nat n m (by omega) (by omega)
  rw [h1]
  refine ⟨by omega, fun y h0 h8 => ?_⟩
  obtain ⟨z, rfl⟩ := Int.eq_ofNat_of_zero_le h0
  rw [hasI_bit_ q z h2 (by omega), hasI_bit_ n z (by omega) (by omega), hasI_bit_ m z (by omega) (by omega)]
  rcases h3 z with h | h
  · exact h
  · omega
theorem bag_mem8 {x : List Int} (hx : SetN 8 x) (z : Int) (h0 : 0 ≤ z) (h8 : z < 8) : hasI (bagI 0 x) z = decide (z ∈ x) := by
  have h1 := (hx.code (by decide)).2
  rw [Bool.eq_iff_iff, decide_eq_true_eq]
  constructor
  · intro h
    rw [← h1]
    exact (selI_mem _ _ _ _).2 ⟨by omega, h⟩
  · intro h
    rw [← h1] at h
    exact ((selI_mem _ _ _ _).1 h).2
theorem onlyL_set {x : List Int} (hx : SetN 8 x) (y : List Int) : SetN 8 (onlyL x y) := ⟨hx.1.filter _, fun z hz => hx.2 z (List.mem_filter.1 hz).1⟩
theorem less_only {x y : List Int} (hx : SetN 8 x) (hy : SetN 8 y) : bagL (lessI (bagI 0 x) (bagI 0 y)) = onlyL x y ∧ (0 ≤ lessI (bagI 0 x) (bagI 0 y) ∧ lessI (bagI 0 x) (bagI 0 y) < 256) := by
  have h1 := (hx.code (by decide)).1
  have h2 := (hy.code (by decide)).1
  have h3 := less_at (b := bagI 0 x) (c := bagI 0 y) (by omega) (by omega)
  refine ⟨?_, h3.1⟩
  refine pw_unique (selI_pw _ _ _) (onlyL_set hx y).1 fun z => ?_
  unfold onlyL bagL
  rw [selI_mem, List.mem_filter]
  constructor
  · rintro ⟨h4, h5⟩
    rw [h3.2 z (by omega) (by omega), bag_mem8 hx z (by omega) (by omega), bag_mem8 hy z (by omega) (by omega), Bool.and_eq_true, decide_eq_true_eq] at h5
    exact h5
  · rintro ⟨h4, h5⟩
    have h6 := hx.2 z h4
    refine ⟨by omega, ?_⟩
    rw [h3.2 z (by omega) (by omega), bag_mem8 hx z (by omega) (by omega), bag_mem8 hy z (by omega) (by omega), decide_eq_true h4, Bool.true_and]
    exact h5
theorem len8 {x : List Int} (hx : SetN 8 x) : x.length ≤ 8 := hx.len
theorem moves_ev {x y : List Int} (hx : SetN 8 x) (hy : SetN 8 y) : Ev (fun k => impl_moves.f k x y) (lessI (bagI 0 x) (bagI 0 y), lessI (bagI 0 y) (bagI 0 x)) := by
  have h1 := len8 hx
  have h2 := len8 hy
  unfold impl_moves.f
  refine Ev.bind (bagOf_ev x (by omega) fun z hz => hx.2 z hz) ?_
  refine Ev.bind (bagOf_ev y (by omega) fun z hz => hy.2 z hz) ?_
  exact Ev.now _
theorem size_only {x y : List Int} (hx : SetN 8 x) (hy : SetN 8 y) : impl_bag_size.f (lessI (bagI 0 x) (bagI 0 y)) = some ((onlyL x y).length : Int) := by
  have h1 := less_only hx hy
  rw [size_at h1.2.1 h1.2.2, ← h1.1]
theorem beq_one (n : Nat) : ((n : Int) == 1) = (n == 1) := by rw [Bool.eq_iff_iff, beq_iff_eq, beq_iff_eq]; omega
theorem nearE_eq (es : List S70) (a b : Int) : nearE es a b = hasP es a b := by
  unfold nearE hasP
  rfl
theorem rd_zero (l : List Int) : rd l 0 = l.headD 0 := by cases l <;> rfl
theorem slide_ev (a : Int) (es : List S70) (hl : es.length ≤ 1048576) (hu : ∀ e ∈ es, e.f0 < e.f1) {x y : List Int} (hx : SetN 8 x) (hy : SetN 8 y) : Ev (fun k => impl_Graph_isSlide.f k a es x y) (slideS es x y) := by
  unfold impl_Graph_isSlide.f slideS jumpS
  refine Ev.bind (moves_ev hx hy) ?_
  refine Ev.bindo (size_only hx hy) ?_
  by_cases c : (onlyL x y).length = 1
  · rw [beq_iff_eq.mpr c, Bool.true_and]
    refine Ev.pos (by omega) ?_
    refine Ev.bindo (size_only hy hx) ?_
    by_cases c2 : (onlyL y x).length = 1
    · rw [beq_iff_eq.mpr c2, Bool.true_and]
      refine Ev.pos (by omega) ?_
      refine Ev.bind (bag_list_ev _) ?_
      rw [show selI (hasI (lessI (bagI 0 x) (bagI 0 y))) 8 0 = onlyL x y from (less_only hx hy).1]
      refine Ev.pos (by omega) ?_
      refine Ev.bind (bag_list_ev _) ?_
      rw [show selI (hasI (lessI (bagI 0 y) (bagI 0 x))) 8 0 = onlyL y x from (less_only hy hx).1]
      refine Ev.pos (by omega) ?_
      rw [rd_zero, rd_zero, nearE_eq]
      exact Ev.bind (has_ev a es _ _ hl hu) (Ev.now _)
    · rw [beq_eq_false_iff_ne.mpr c2, Bool.false_and]
      exact Ev.neg (by omega) (Ev.now _)
  · rw [beq_eq_false_iff_ne.mpr c, Bool.false_and, Bool.false_and]
    exact Ev.neg (by omega) (Ev.now _)
theorem only_loop (x y : List Int) (hx : x.length ≤ 1048576) (hy : y.length ≤ 1048576) (d : Nat) : ∀ (m : Nat) (acc : List Int), x.length - m = d → m ≤ x.length → acc.length ≤ m → Ev (fun k => spec_l3Only.l0 k x y acc (m : Int)) (acc ++ onlyL (x.drop m) y) := by
  induction d with
  | zero =>
    intro m acc h0 h1 h2
    rw [List.drop_eq_nil_of_le (by omega), show onlyL [] y = [] from rfl, List.append_nil]
    refine Ev.step (fun k => by rw [spec_l3Only.l0]) (Ev.neg (by omega) (Ev.now _))
  | succ d ih =>
    intro m acc h0 h1 h2
    have hm : m < x.length := by omega
    refine Ev.step (fun k => by rw [spec_l3Only.l0]) (Ev.pos (by omega) (Ev.pos (by omega) ?_))
    rw [rd_at x m hm, wrap_up hm (by omega)]
    refine Ev.bind (l1Has_ev y _ hy) ?_
    rw [List.drop_eq_getElem_cons hm]
    by_cases c : x[m] ∈ y
    · refine Ev.pos (decide_eq_true c) ?_
      have := ih (m + 1) acc (by omega) (by omega) (by omega)
      have e : onlyL (x[m] :: x.drop (m + 1)) y = onlyL (x.drop (m + 1)) y := by unfold onlyL; rw [List.filter_cons_of_neg (by simp [c])]
      rw [e]
      exact this
    · refine Ev.neg (by simp [c]) (Ev.pos (by omega) ?_)
      have := ih (m + 1) (acc ++ [x[m]]) (by omega) (by omega) (by rw [List.length_append, List.length_singleton]; omega)
      have e : onlyL (x[m] :: x.drop (m + 1)) y = x[m] :: onlyL (x.drop (m + 1)) y := by unfold onlyL; rw [List.filter_cons_of_pos (by simp [c])]
      rw [e]
      rw [List.append_assoc] at this
      exact this
theorem only_ev (x y : List Int) (hx : x.length ≤ 1048576) (hy : y.length ≤ 1048576) : Ev (fun k => spec_l3Only.f k x y) (onlyL x y) := by
  have := only_loop x y hx hy x.length 0 [] (by omega) (by omega) (by simp)
  unfold spec_l3Only.f
  simpa only [List.nil_append, List.drop_zero, Int.natCast_zero] using this
/-- When two sets differ by a step of a kind. -/
def stepS (es : List S70) (kind : Int) (x y : List Int) : Bool := if kind = 2 then addS x y else if kind = 1 then jumpS x y else slideS es x y
theorem onlyL_len (x y : List Int) : (onlyL x y).length ≤ x.length := List.length_filter_le _ _
theorem step_ev (a : Int) (es : List S70) (hl : es.length ≤ 1048576) (kind : Int) (x y : List Int) (hx : x.length ≤ 1048576) (hy : y.length ≤ 1048576) : Ev (fun k => spec_l3Step.f k a es kind x y) (stepS es kind x y) := by
  have h1 := onlyL_len x y
  have h2 := onlyL_len y x
  unfold spec_l3Step.f stepS
  refine Ev.bind (only_ev x y hx hy) ?_
  refine Ev.bind (only_ev y x hy hx) ?_
  by_cases c : kind = 2
  · rw [if_pos c]
    refine Ev.pos c ?_
    unfold addS
    rw [wrap_nat (by omega) (by omega), show ((onlyL x y).length : Int) + ((onlyL y x).length : Int) = (((onlyL x y).length + (onlyL y x).length : Nat) : Int) by omega, beq_one]
    exact Ev.now _
  · rw [if_neg c]
    refine Ev.neg c ?_
    unfold slideS jumpS
    by_cases c1 : (onlyL x y).length = 1
    · rw [beq_iff_eq.mpr c1, Bool.true_and]
      refine Ev.pos (by omega) ?_
      by_cases c2 : (onlyL y x).length = 1
      · rw [beq_iff_eq.mpr c2, Bool.true_and]
        refine Ev.pos (by omega) ?_
        by_cases c3 : kind = 1
        · rw [if_pos c3]
          exact Ev.pos c3 (Ev.now _)
        · rw [if_neg c3]
          refine Ev.neg c3 (Ev.pos (by omega) (Ev.pos (by omega) ?_))
          rw [rd_zero, rd_zero, nearE_eq]
          exact Ev.bind (near_ev a es _ _ hl) (Ev.now _)
      · rw [beq_eq_false_iff_ne.mpr c2, Bool.false_and, ite_self]
        exact Ev.neg (by omega) (Ev.now _)
    · rw [beq_eq_false_iff_ne.mpr c1, Bool.false_and, Bool.false_and, ite_self]
      exact Ev.neg (by omega) (Ev.now _)
section
variable (a : Int) (es : List S70) (kind : Int) (ls : List (List Int)) (st : List Int → List Int → Bool) (hls : ls.length ≤ 1024) (hst : ∀ x ∈ ls, ∀ y ∈ ls, Ev (fun k => spec_l3Step.f k a es kind x y) (st x y)) (R : List S70) (hR : R.length ≤ 1048576)
include hls hst hR
theorem row_loop (i : Nat) (hi : i < ls.length) (hnext : ∀ acc, acc ++ allSteps st (i + 1) (ls.drop (i + 1)) = R → Ev (fun k => spec_l3Space.l0 k kind ls ((i + 1 : Nat) : Int) a es ls acc) (ls, R)) (d : Nat) :
    ∀ (m : Nat) (acc : List S70), ls.length - m = d → m ≤ ls.length → acc ++ rowSteps st ls[i] i m (ls.drop m) ++ allSteps st (i + 1) (ls.drop (i + 1)) = R → Ev (fun k => spec_l3Space.l1 k kind ls (i : Int) (m : Int) a es ls acc) (ls, R) := by
  induction d with
  | zero =>
    intro m acc h0 h1 h2
    rw [List.drop_eq_nil_of_le (show ls.length ≤ m by omega), rowSteps, List.append_nil] at h2
    refine Ev.step (fun k => by rw [spec_l3Space.l1]) (Ev.neg (by omega) ?_)
    rw [wrap_up hi (by omega)]
    exact hnext acc h2
  | succ d ih =>
    intro m acc h0 h1 h2
    have hm : m < ls.length := by omega
    have hal : acc.length ≤ 1048576 := by
      have := congrArg List.length h2
      simp only [List.length_append] at this
      omega
    rw [List.drop_eq_getElem_cons hm, rowSteps] at h2
    refine Ev.step (fun k => by rw [spec_l3Space.l1]) (Ev.pos (by omega) (Ev.pos (by omega) (Ev.pos (by omega) (Ev.pos (by omega) ?_))))
    rw [rdL_at ls i hi, rdL_at ls m hm, wrap_up hm (by omega)]
    refine Ev.bind (hst _ (List.getElem_mem _) _ (List.getElem_mem _)) ?_
    cases c : st ls[i] ls[m] with
    | true =>
      rw [c, if_pos rfl] at h2
      refine Ev.pos rfl (Ev.pos (by omega) ?_)
      exact ih (m + 1) _ (by omega) (by omega) (by simpa only [List.append_assoc] using h2)
    | false =>
      rw [c, if_neg (by decide), List.nil_append] at h2
      exact Ev.neg (by decide) (ih (m + 1) _ (by omega) (by omega) h2)
theorem all_loop (d : Nat) : ∀ (i : Nat) (acc : List S70), ls.length - i = d → i ≤ ls.length → acc ++ allSteps st i (ls.drop i) = R → Ev (fun k => spec_l3Space.l0 k kind ls (i : Int) a es ls acc) (ls, R) := by
  induction d with
  | zero =>
    intro i acc h0 h1 h2
    rw [List.drop_eq_nil_of_le (show ls.length ≤ i by omega), allSteps, List.append_nil] at h2
    refine Ev.step (fun k => by rw [spec_l3Space.l0]) (Ev.neg (by omega) ?_)
    rw [h2]
    exact Ev.now _
  | succ d ih =>
    intro i acc h0 h1 h2
    have hi : i < ls.length := by omega
    rw [List.drop_eq_getElem_cons hi, allSteps, ← List.append_assoc] at h2
    refine Ev.step (fun k => by rw [spec_l3Space.l0]) (Ev.pos (by omega) ?_)
    rw [wrap_up hi (by omega)]
    exact row_loop a es kind ls st hls hst R hR i hi (fun acc' h => ih (i + 1) acc' (by omega) (by omega) h) _ (i + 1) acc rfl (by omega) h2
end
theorem l3Space_ev (a : Int) (es : List S70) (kind : Int) (ls : List (List Int)) (st : List Int → List Int → Bool) (hls : ls.length ≤ 1024) (hst : ∀ x ∈ ls, ∀ y ∈ ls, Ev (fun k => spec_l3Step.f k a es kind x y) (st x y)) : Ev (fun k => spec_l3Space.f k a es kind ls) (ls, allSteps st 0 ls) := by
  have h1 := allSteps_len st ls 0
  have h4 : ls.length * ls.length ≤ 1024 * 1024 := Nat.mul_le_mul hls hls
  have := all_loop a es kind ls st hls hst (allSteps st 0 ls) (by omega) ls.length 0 [] (by omega) (by omega) (by rw [List.drop_zero, List.nil_append])
  unfold spec_l3Space.f
  simpa only [Int.natCast_zero] using this
/-- What holds of each pair of a list from some round on holds of all of them from some round on. -/
theorem ev_all {α β : Type} (t : List α) (f : Nat → α → Option β) (g : α → β) (h : ∀ x ∈ t, Ev (fun k => f k x) (g x)) : ∃ K, ∀ k, K ≤ k → ∀ x ∈ t, f k x = some (g x) := by
  induction t with
  | nil => exact ⟨0, fun _ _ x hx => by cases hx⟩
  | cons a t ih =>
    obtain ⟨K, hK⟩ := ih fun x hx => h x (List.mem_cons_of_mem _ hx)
    obtain ⟨K', hK'⟩ := h a (List.mem_cons_self ..)
    refine ⟨max K K', fun k hk x hx => ?_⟩
    rcases List.mem_cons.1 hx with rfl | hx
    · exact hK' k (by omega)
    · exact hK k (by omega) x hx
theorem space_ev (f : Nat → List Int → List Int → Option Bool) (st : List Int → List Int → Bool) (t : List (List Int)) (hl : t.length ≤ 1024) (h : ∀ x ∈ t, ∀ y ∈ t, Ev (fun k => f k x y) (st x y)) (hs : sortLL t = t) : Ev (fun k => spaceR (allAre (f k) st t) st t) (t, allSteps st 0 t, true) := by
  obtain ⟨K, hK⟩ := ev_all (t.flatMap fun x => t.map fun y => (x, y)) (fun k p => f k p.1 p.2) (fun p => st p.1 p.2) fun p hp => by
    obtain ⟨x, hx, hp⟩ := List.mem_flatMap.1 hp
    obtain ⟨y, hy, rfl⟩ := List.mem_map.1 hp
    exact h x hx y hy
  refine ⟨K, fun k hk => ?_⟩
  show spaceR _ _ _ = _
  unfold spaceR
  rw [if_pos ⟨hl, decide_eq_true fun x hx y hy => hK k hk (x, y) (List.mem_flatMap.2 ⟨x, hx, List.mem_map.2 ⟨y, hy, rfl⟩⟩)⟩, hs]
theorem freeS_sorted {n : Nat} (hn : n ≤ 8) (e : List S70) (lo hi : Int) : sortLL (freeS n e lo hi) = freeS n e lo hi :=
  lex_unique _ _ (sortLL_lex _ (freeS_lex hn e lo hi).nodup) (freeS_lex hn e lo hi) fun s => sortLL_mem _ _
theorem freeS_8 {n : Nat} (hn : n ≤ 8) {e : List S70} {lo hi : Int} {s : List Int} (h : s ∈ freeS n e lo hi) : SetN 8 s := ((freeS_mem hn e lo hi s).1 h).1.wide hn
end Go.Proofs.Ytadjbmcfgjmhkaa.P
namespace Go.Proofs.Ytadjbmcfgjmhkaa.P
open Go.RowKit Go.Proofs.YtadjbmcfgjmhkaaW.PrintWords Go.Proofs.YtadjbmcfgjmhkaaW.PrintLast Go.Proofs.YtadjbmcfgjmhkaaW.PrintMore
set_option linter.unusedVariables false
set_option linter.unusedSimpArgs false

def seqI : Nat → Int → List Int
  | 0, _ => []
  | n + 1, k => k :: seqI n (wrap64 (k + 1))
def endI : Nat → Int → Int
  | 0, k => k
  | n + 1, k => endI n (wrap64 (k + 1))
theorem seqI_len (n : Nat) : ∀ k, (seqI n k).length = n := by
  induction n with
  | zero => intro k; rfl
  | succ n ih => intro k; simp [seqI, ih]
theorem endI_at (n : Nat) : ∀ k, 0 ≤ k → k + (n : Int) ≤ 4611686018427387904 → endI n k = k + (n : Int) := by
  induction n with
  | zero => intro k h1 h2; simp [endI]
  | succ n ih =>
    intro k h1 h2
    have e1 : wrap64 (k + 1) = k + 1 := wrap_nat (by omega) (by omega)
    rw [endI, e1, ih (k + 1) (by omega) (by omega)]
    omega
theorem heldInt_loop (d : Nat) : ∀ (done : List Int) (c : Int), done.length + d ≤ 1048576 →
    Ev (fun k => laws_heldIntS.l0 k (done ++ seqI d c) c (done.length : Int)) (endI d c) := by
  induction d with
  | zero =>
    intro done c h1
    refine Ev.step (fun k => by rw [laws_heldIntS.l0]) ?_
    refine Ev.neg (by simp [seqI]) ?_
    exact Ev.now _
  | succ d ih =>
    intro done c h1
    refine Ev.step (fun k => by rw [laws_heldIntS.l0]) ?_
    have hlen : (done ++ seqI (d + 1) c).length = done.length + (d + 1) := by rw [List.length_append, seqI_len]
    refine Ev.pos (by rw [hlen]; omega) (Ev.pos (by omega) ?_)
    have hr : rd (done ++ seqI (d + 1) c) (done.length : Int) = c := by
      rw [rd_at _ _ (by rw [hlen]; omega)]
      simp [seqI]
    refine Ev.pos hr ?_
    have hw : wrap64 ((done.length : Int) + 1) = ((done ++ [c]).length : Int) := by
      rw [List.length_append, List.length_singleton]
      exact wrap_up (n := done.length + 1) (by omega) (by omega)
    rw [hw]
    have := ih (done ++ [c]) (wrap64 (c + 1)) (by rw [List.length_append, List.length_singleton]; omega)
    simpa only [seqI, endI, List.append_assoc, List.singleton_append] using this
theorem heldInt_ev (n : Nat) (c : Int) (hn : n ≤ 1048576) : Ev (fun k => laws_heldIntS.f k (seqI n c) c) (endI n c) := by
  unfold laws_heldIntS.f
  have := heldInt_loop n [] c (by simpa using hn)
  simpa only [List.nil_append, List.length_nil, Int.ofNat_eq_natCast, Int.natCast_zero] using this
end Go.Proofs.Ytadjbmcfgjmhkaa.P
namespace Go.Proofs.Ytadjbmcfgjmhkaa.P
open Go.RowKit Go.Proofs.YtadjbmcfgjmhkaaW.PrintWords Go.Proofs.YtadjbmcfgjmhkaaW.PrintLast Go.Proofs.YtadjbmcfgjmhkaaW.PrintMore
set_option linter.unusedVariables false
set_option linter.unusedSimpArgs false

theorem seqS_eq (n : Nat) : ∀ k, seqS n k = seqI n k := by
  induction n with
  | zero => intro k; rfl
  | succ n ih => intro k; simp only [seqS, seqI, ih]
theorem endS_eq (n : Nat) : ∀ k, endS n k = endI n k := by
  induction n with
  | zero => intro k; rfl
  | succ n ih => intro k; simp only [endS, endI, ih]
theorem markSS_fst (l : List (List Int)) : ∀ (k : Int), (∀ s ∈ l, s.length ≤ 1048576) → 0 ≤ k → k + 1048576 * (l.length : Int) ≤ 2305843009213693952 → 0 ≤ (markSS l k).1 ∧ (markSS l k).1 ≤ k + 1048576 * (l.length : Int) := by
  induction l with
  | nil => intro k _ h0 h1; simp only [markSS, List.length_nil]; omega
  | cons s t ih =>
    intro k hs h0 h1
    have h2 := hs s (.head _)
    rw [List.length_cons] at h1 ⊢
    have e1 : endS s.length k = k + (s.length : Int) := by rw [endS_eq, endI_at s.length k h0 (by omega)]
    simp only [markSS, e1]
    have := ih (k + (s.length : Int)) (fun q hq => hs q (.tail _ hq)) (by omega) (by omega)
    omega
theorem markSpace_at (l : List (List Int)) (e : List S70) (k : Int) : laws_markSpace.f l e k = some ((mark2 e (markSS l k).1).1, (markSS l k).2, (mark2 e (markSS l k).1).2) := rfl
theorem markSpace_le (l : List (List Int)) (e : List S70) (h : modS l e) : 0 ≤ (mark2 e (markSS l 1).1).1 ∧ (mark2 e (markSS l 1).1).1 ≤ 1125899906842624 + 1125899906842624 := by
  have h1 := markSS_fst l 1 h.2.1 (by omega) (by have := h.1; omega)
  have h2 := h.1
  have h3 := h.2.2
  rw [mark2_fst e _ h1.1 (by omega)]
  omega
theorem markSpace_pos (l : List (List Int)) (e : List S70) (h : modS l e) : ¬ (mark2 e (markSS l 1).1).1 < 0 := by have := (markSpace_le l e h).1; omega
theorem markSS_pos (l : List (List Int)) (h0 : l.length ≤ 1048576) (h : ∀ s ∈ l, s.length ≤ 1048576) : ¬ (markSS l 1).1 < 0 := by
  have h1 := markSS_fst l 1 h (by omega) (by omega)
  omega
theorem markSpace_ex (l : List (List Int)) (e : List S70) (h : modS l e) : ∃ k a b, laws_markSpace.f l e 1 = some (k, a, b) ∧ ¬ k < 0 ∧ k ≤ 2251799813685248 := ⟨_, _, _, markSpace_at l e 1, markSpace_pos l e h, (markSpace_le l e h).2⟩
theorem markGraph_ex (a : Int) (l : List S70) (h : l.length ≤ 1048576) : ∃ k b, laws_markGraph.f a l 1 = some (k, b) ∧ ¬ k < 0 ∧ k ≤ 2251799813685248 := ⟨_, _, markGraph_at a l 1, mark1_pos l h, by rw [mark2_fst l 1 (by omega) (by omega)]; omega⟩
theorem heldSS_loop (done : List (List Int)) : ∀ (t : List (List Int)) (k : Int), (∀ s ∈ t, s.length ≤ 1048576) → 0 ≤ k → k + 1048576 * (t.length : Int) ≤ 2305843009213693952 → done.length + t.length ≤ 1048576 → Ev (fun n => laws_heldIntSS.l0 n (done ++ (markSS t k).2) k (done.length : Int)) (markSS t k).1 := by
  intro t
  induction t generalizing done with
  | nil =>
    intro k _ h0 h1 h2
    refine Ev.step (fun n => by rw [laws_heldIntSS.l0]) (Ev.neg (by simp [markSS]) ?_)
    exact Ev.now _
  | cons s t ih =>
    intro k hs h0 h1 h2
    have h3 := hs s (.head _)
    rw [List.length_cons] at h1 h2
    have e1 : endS s.length k = k + (s.length : Int) := by rw [endS_eq, endI_at s.length k h0 (by omega)]
    simp only [markSS, e1]
    have hlen : done.length < (done ++ seqS s.length k :: (markSS t (k + (s.length : Int))).2).length := by simp
    refine Ev.step (fun n => by rw [laws_heldIntSS.l0]) (Ev.pos (by omega) (Ev.pos (by omega) ?_))
    rw [rdL_at _ done.length hlen, List.getElem_append_right (Nat.le_refl _)]
    simp only [Nat.sub_self, List.getElem_cons_zero]
    have hh := heldInt_ev s.length k h3
    rw [← seqS_eq, ← endS_eq, e1] at hh
    refine Ev.bind hh (Ev.neg (by omega) ?_)
    have := ih (done ++ [seqS s.length k]) (k + (s.length : Int)) (fun q hq => hs q (.tail _ hq)) (by omega) (by omega) (by simp; omega)
    rw [List.append_assoc, List.singleton_append] at this
    have ew : wrap64 ((done.length : Int) + 1) = ((done ++ [seqS s.length k]).length : Int) := by
      rw [List.length_append, List.length_singleton]; unfold wrap64; omega
    rw [ew]
    exact this
theorem heldSS_ev (t : List (List Int)) (h : ∀ s ∈ t, s.length ≤ 1048576) (hl : t.length ≤ 1048576) : Ev (fun n => laws_heldIntSS.f n (markSS t 1).2 1) (markSS t 1).1 := by
  have := heldSS_loop [] t 1 h (by omega) (by omega) (by simpa using hl)
  simpa [laws_heldIntSS.f] using this
theorem heldSpace_ev (l : List (List Int)) (e : List S70) (h : modS l e) : Ev (fun n => laws_heldSpace.f n (markSS l 1).2 (mark2 e (markSS l 1).1).2 1) (mark2 e (markSS l 1).1).1 := by
  unfold laws_heldSpace.f
  refine Ev.bind (heldSS_ev l h.2.1 h.1) (Ev.neg (markSS_pos l h.1 h.2.1) ?_)
  refine Ev.bindo (show laws_heldIntA2S.f (mark2 e (markSS l 1).1).2 (markSS l 1).1 = some (mark2 e (markSS l 1).1).1 from ?_) (Ev.neg (markSpace_pos l e h) (Ev.now _))
  unfold laws_heldIntA2S.f
  rw [held_mark2]
theorem heldSpace_of (l : List (List Int)) (e : List S70) (h : modS l e) {k : Int} {a : List (List Int)} {b : List S70} (hk : laws_markSpace.f l e 1 = some (k, a, b)) : Ev (fun n => laws_heldSpace.f n a b 1) k := by
  rw [markSpace_at] at hk
  injection hk with hk
  injection hk with h1 h2
  injection h2 with h2 h3
  subst h1; subst h2; subst h3
  exact heldSpace_ev l e h
end Go.Proofs.Ytadjbmcfgjmhkaa.P
namespace Go.Proofs.Ytadjbmcfgjmhkaa.P
open Go.RowKit Go.Proofs.YtadjbmcfgjmhkaaW.PrintWords Go.Proofs.YtadjbmcfgjmhkaaW.PrintLast Go.Proofs.YtadjbmcfgjmhkaaW.PrintMore
set_option linter.unusedVariables false
set_option linter.unusedSimpArgs false

/-- The space of the independent sets with lo to hi nodes. -/
def tokR (a : Int) (e : List S70) (k0 lo hi kind : Int) : List (List Int) × List S70 × Bool :=
  if (okG a e && (decide (0 ≤ k0) && decide (k0 ≤ 8))) = true then (freeS a.toNat e lo hi, allSteps (stepS e kind) 0 (freeS a.toNat e lo hi), true) else ([], [], false)
theorem tokR_mod (a : Int) (e : List S70) (k0 lo hi kind : Int) : modS (tokR a e k0 lo hi kind).1 (tokR a e k0 lo hi kind).2.1 := by
  unfold tokR modS
  by_cases c : (okG a e && (decide (0 ≤ k0) && decide (k0 ≤ 8))) = true
  · rw [if_pos c]
    have hg := ((Bool.and_eq_true _ _).mp c).1
    have h1 := okG_all hg
    have h2 := freeS_len (n := a.toNat) (by omega) e lo hi
    have h3 := allSteps_len (stepS e kind) (freeS a.toNat e lo hi) 0
    have h4 : (freeS a.toNat e lo hi).length * (freeS a.toNat e lo hi).length ≤ 256 * 256 := Nat.mul_le_mul h2 h2
    exact ⟨by show (freeS _ _ _ _).length ≤ _; omega, (fun s hs => by
      have := ((freeS_mem (by omega) e lo hi s).1 hs).1.len
      omega), by show (allSteps _ _ _).length ≤ _; omega⟩
  · rw [if_neg c]
    exact ⟨Nat.zero_le _, (fun s hs => by cases hs), Nat.zero_le _⟩
theorem l3tok_ev (n : Nat) (hn : n ≤ 8) (e : List S70) (he : e.length ≤ 1048576) (lo hi kind : Int) : Ev (fun k => spec_l3Space.f k (n : Int) e kind (freeS n e lo hi)) (freeS n e lo hi, allSteps (stepS e kind) 0 (freeS n e lo hi)) := by
  have h2 := freeS_len hn e lo hi
  exact l3Space_ev _ e kind _ _ (by omega) fun x hx y hy => step_ev _ e he kind x y (by have := len8 (freeS_8 hn hx); omega) (by have := len8 (freeS_8 hn hy); omega)
theorem impl_tok_ev (n : Nat) (hn : n ≤ 8) (e : List S70) (lo hi kind : Int) (f : Nat → List Int → List Int → Option Bool) (h : ∀ x y, SetN 8 x → SetN 8 y → Ev (fun k => f k x y) (stepS e kind x y)) : Ev (fun k => spaceR (allAre (f k) (stepS e kind) (freeS n e lo hi)) (stepS e kind) (freeS n e lo hi)) (freeS n e lo hi, allSteps (stepS e kind) 0 (freeS n e lo hi), true) := by
  have h2 := freeS_len hn e lo hi
  exact space_ev f _ _ (by omega) (fun x hx y hy => h x y (freeS_8 hn hx) (freeS_8 hn hy)) (freeS_sorted hn e lo hi)
theorem stepS_slide (e : List S70) : stepS e 0 = slideS e := by funext x y; unfold stepS; rw [if_neg (by decide), if_neg (by decide)]
theorem impl_SlideSpace_ev (a : Int) (e : List S70) (k0 : Int) (he : e.length ≤ 1048576) : Ev (fun k => impl_SlideSpace.f k a e k0) (tokR a e k0 k0 k0 0) := by
  unfold impl_SlideSpace.f tokR
  refine Ev.bind (impl_ind_ev a e k0 he) ?_
  unfold indR
  by_cases c : (okG a e && (decide (0 ≤ k0) && decide (k0 ≤ 8))) = true
  · rw [if_pos c, if_pos c]
    have hg := ((Bool.and_eq_true _ _).mp c).1
    have h1 := okG_all hg
    obtain ⟨n, rfl⟩ := Int.eq_ofNat_of_zero_le h1.1
    refine Ev.pos rfl ?_
    rw [Int.toNat_natCast]
    have := impl_tok_ev n (by omega) e k0 k0 0 (fun k => impl_Graph_isSlide.f k (n : Int) e) (fun x y hx hy => by rw [stepS_slide]; exact slide_ev (n : Int) e he (fun s hs => (h1.2.2 s hs).2.1) hx hy)
    rw [stepS_slide] at this ⊢
    exact this
  · rw [if_neg c, if_neg c]
    exact Ev.neg (by decide) (Ev.now _)
end Go.Proofs.Ytadjbmcfgjmhkaa.P
namespace Go.Proofs.Ytadjbmcfgjmhkaa.P
open Go.RowKit Go.Proofs.YtadjbmcfgjmhkaaW.PrintWords Go.Proofs.YtadjbmcfgjmhkaaW.PrintLast Go.Proofs.YtadjbmcfgjmhkaaW.PrintMore
set_option linter.unusedVariables false
set_option linter.unusedSimpArgs false

theorem spec_SlideSpace_ev (a : Int) (e : List S70) (k0 : Int) (he : e.length ≤ 1048576) : Ev (fun k => spec_SlideSpace.f k a e k0) (tokR a e k0 k0 k0 0) := by
  unfold spec_SlideSpace.f tokR
  refine Ev.bind (l3Ask_ev a e k0 he) ?_
  by_cases c : (okG a e && (decide (0 ≤ k0) && decide (k0 ≤ 8))) = true
  · rw [if_pos c]
    have hg := ((Bool.and_eq_true _ _).mp c).1
    have h1 := okG_all hg
    obtain ⟨n, rfl⟩ := Int.eq_ofNat_of_zero_le h1.1
    refine Ev.pos c ?_
    rw [Int.toNat_natCast]
    refine Ev.bind (l3Sets_ev n (by omega) e he hg _ _) ?_
    exact Ev.bind (l3tok_ev n (by omega) e he _ _ _) (Ev.now _)
  · rw [if_neg c]
    exact Ev.neg c (Ev.now _)
theorem Both_FnExactSlideSpace (a0_0 : Int) (l0_1 : List S70) (a1 : Int) (w0_0 : (Lit.int .i64 a0_0).wf = true) (w0_1 : FitP l0_1) (w1 : (Lit.int .i64 a1).wf = true) (hn0 : l0_1.length ≤ 1048576) : ∃ (q0 : List (List Int)) (q1 : List S70) (q2 : Bool), Ev (fun k => spec_SlideSpace.f k a0_0 l0_1 a1) (q0, q1, q2) ∧ Ev (fun k => impl_SlideSpace.f k a0_0 l0_1 a1) (q0, q1, q2) ∧ modS q0 q1 :=
  ⟨(tokR a0_0 l0_1 a1 a1 a1 0).1, (tokR a0_0 l0_1 a1 a1 a1 0).2.1, (tokR a0_0 l0_1 a1 a1 a1 0).2.2, spec_SlideSpace_ev _ _ _ hn0, impl_SlideSpace_ev _ _ _ hn0, tokR_mod _ _ _ _ _ _⟩
end Go.Proofs.Ytadjbmcfgjmhkaa.P
namespace Go.Proofs.Ytadjbmcfgjmhkaa.P
open Go.RowKit Go.Proofs.YtadjbmcfgjmhkaaW.PrintWords Go.Proofs.YtadjbmcfgjmhkaaW.PrintLast Go.Proofs.YtadjbmcfgjmhkaaW.PrintMore
set_option linter.unusedVariables false
set_option maxHeartbeats 1000000 in
theorem Law_FnExactSlideSpace (a0_0 : Int) (A0_1 : Option Addr) (ca0_1 : Nat) (l0_1 : List (S70)) (a1 : Int) (w : World) (hr0_1 : Kd.C k70 w A0_1 l0_1.length l0_1) (hc0_1 : l0_1.length ≤ ca0_1) (w0_0 : (Lit.int .i64 a0_0).wf = true) (w0_1 : FitP l0_1) (w1 : (Lit.int .i64 a1).wf = true) :
    Calls Try.prog 9 #[.agg #[.int .i64 a0_0, .slice A0_1 l0_1.length ca0_1], .int .i64 a1] w fun e w' => e = .returned (.bool true) ∧ Below w.heap.size w w' := by
  obtain ⟨t0, h0, m0⟩ := sz_graph a0_0 l0_1 w0_1.1
  by_cases c0 : t0 < 0
  · exact laws_FnExactSlideSpace.exit0 a0_0 A0_1 ca0_1 l0_1 a1 t0 w hr0_1 hc0_1 c0 h0
  have hn0 := m0.resolve_left c0
  obtain ⟨q0, q1, q2, es, ei, hb1⟩ := Both_FnExactSlideSpace a0_0 l0_1 a1 w0_0 w0_1 w1 hn0
  obtain ⟨k1, h1⟩ := Ev.rounds (toGraph_ev a0_0 l0_1 hn0)
  obtain ⟨k2, h2⟩ := Ev.rounds (es)
  obtain ⟨k3, h3⟩ := Ev.rounds (ei)
  obtain ⟨k4, h4⟩ := Ev.rounds (eqSpace_ev q0 q1 hb1)
  obtain ⟨k5, h5⟩ := Ev.rounds (eqGraph_ev a0_0 l0_1 hn0)
  obtain ⟨kk0, mk0_0, h6, nkk0, pkk0⟩ := markGraph_ex a0_0 l0_1 hn0
  obtain ⟨kk1, mk1_0, mk1_1, h7, nkk1, pkk1⟩ := markSpace_ex q0 q1 hb1
  obtain ⟨k8, h8⟩ := Ev.rounds (heldSpace_of q0 q1 hb1 h7)
  exact laws_FnExactSlideSpace.walk a0_0 A0_1 ca0_1 l0_1 a1 k1 k2 k3 k4 k5 k8 t0 q0 q1 q2 kk0 mk0_0 kk1 mk1_0 mk1_1 w hr0_1 hc0_1 c0 h0 h1 h2 h3 h4 h5 h6 h7 h8 nkk0 nkk1
end Go.Proofs.Ytadjbmcfgjmhkaa.P
