/- All sets of a kind, as both sides list them. -/
import Derived.Test.YthnojbafclglpaaBestOfKindG16
import Derived.Test.YthnojbafclglpaaBestOfKindG15
import Derived.Test.YthnojbafclglpaaBestOfKindG11
import Derived.Test.YthnojbafclglpaaBestOfKindG13
import Derived.Test.YthnojbafclglpaaBestOfKindG6
import Derived.Test.YthnojbafclglpaaBestOfKindG5
import Derived.Handy
import Derived.Test.YthnojbafclglpaaBestOfKindG12
namespace Go.Proofs.Ythnojbafclglpaa.P
open Go.RowKit Go.Proofs.YthnojbafclglpaaW.PrintWords Go.Proofs.YthnojbafclglpaaW.PrintLast Go.Proofs.YthnojbafclglpaaW.PrintMore
set_option linter.unusedVariables false
set_option linter.unusedSimpArgs false

/-- For finitely many, one number of rounds serves all. -/
theorem uniform (P : Nat → Nat → Prop) : ∀ n : Nat, (∀ b, b < n → ∃ K, ∀ k, K ≤ k → P b k) → ∃ K, ∀ k, K ≤ k → ∀ b, b < n → P b k := by
  intro n
  induction n with
  | zero => intro _; exact ⟨0, fun k _ b hb => by omega⟩
  | succ n ih =>
    intro h
    obtain ⟨K1, h1⟩ := ih (fun b hb => h b (by omega))
    obtain ⟨K2, h2⟩ := h n (by omega)
    refine ⟨max K1 K2, fun k hk b hb => ?_⟩
    by_cases c : b = n
    · subst c; exact h2 k (by omega)
    · exact h1 k (by omega) b (by omega)
section
variable (n : Nat) (hn : n ≤ 8) (e : List S64) (c : Int) (he : e.length ≤ 1048576)
/-- The sets of a kind, by their codes. -/
def kindB (n : Nat) (e : List S64) (c : Int) (b : Int) : Bool := kindI (n : Int) e c (bagL b)
/-- The sets of a kind with so many nodes. -/
def kindZ (n : Nat) (e : List S64) (c : Int) (z : Nat) (b : Int) : Bool := decide ((bagL b).length = z) && kindB n e c b
def levels (n : Nat) (e : List S64) (c : Int) : Nat → Nat → List (List Int)
  | 0, _ => []
  | d + 1, z => sortLL (codesL (kindZ n e c z) (2 ^ n)) ++ levels n e c d (z + 1)
include hn in
theorem levels_mem (d : Nat) : ∀ z s, s ∈ levels n e c d z ↔ SetN n s ∧ kindI (n : Int) e c s = true ∧ z ≤ s.length ∧ s.length < z + d := by
  induction d with
  | zero => intro z s; simp only [levels, List.not_mem_nil, false_iff]; omega
  | succ d ih =>
    intro z s
    simp only [levels]
    rw [List.mem_append, sortLL_mem, codes_mem hn, ih]
    constructor
    · rintro (⟨h1, h2⟩ | ⟨h1, h2, h3, h4⟩)
      · unfold kindZ kindB at h2
        rw [(h1.code hn).2, Bool.and_eq_true, decide_eq_true_eq] at h2
        exact ⟨h1, h2.2, by omega, by omega⟩
      · exact ⟨h1, h2, by omega, by omega⟩
    · rintro ⟨h1, h2, h3, h4⟩
      by_cases q : s.length = z
      · refine .inl ⟨h1, ?_⟩
        unfold kindZ kindB
        rw [(h1.code hn).2, h2, decide_eq_true q]
        rfl
      · exact .inr ⟨h1, h2, by omega, by omega⟩
include hn in
theorem levels_pw (d : Nat) : ∀ z, (levels n e c d z).Pairwise (fun x y => befS x y = true) := by
  have hpow : 2 ^ n ≤ 256 := Nat.pow_le_pow_right (n := 2) (by decide) (show n ≤ 8 from hn)
  induction d with
  | zero => intro z; exact List.Pairwise.nil
  | succ d ih =>
    intro z
    simp only [levels]
    rw [List.pairwise_append]
    have hz : ∀ s, s ∈ sortLL (codesL (kindZ n e c z) (2 ^ n)) → s.length = z := fun s hs => by
      rw [sortLL_mem, codes_mem hn] at hs
      have h2 := hs.2
      unfold kindZ at h2
      rw [(hs.1.code hn).2, Bool.and_eq_true, decide_eq_true_eq] at h2
      exact h2.1
    refine ⟨?_, ih (z + 1), fun a ha b hb => ?_⟩
    · have h1 := sortLL_lex (codesL (kindZ n e c z) (2 ^ n)) (codes_nodup hpow _)
      refine (List.Pairwise.and_mem.1 h1).imp ?_
      rintro x y ⟨hx, hy, h⟩
      rw [befS_eq, if_pos ((hz x hx).trans (hz y hy).symm)]
      exact h
    · have h1 := hz a ha
      have h2 := ((levels_mem n hn e c d (z + 1) b).1 hb).2.2.1
      rw [befS_eq, if_neg (by omega), decide_eq_true_eq]
      omega
include hn in
include hn in
theorem levels_eq : levels n e c (n + 1) 0 = sortSS (sortLL (codesL (kindB n e c) (2 ^ n))) := by
  have hpow : 2 ^ n ≤ 256 := Nat.pow_le_pow_right (n := 2) (by decide) (show n ≤ 8 from hn)
  have hnd : (sortLL (codesL (kindB n e c) (2 ^ n))).Nodup := (sortLL_lex _ (codes_nodup hpow _)).nodup
  refine strict_unique befS_irrefl (fun _ _ h => befS_asymm h) _ _ (levels_pw n hn e c (n + 1) 0) ?_ fun s => ?_
  · have h1 : (sortSS (sortLL (codesL (kindB n e c) (2 ^ n)))).Pairwise (fun x y => (!befS y x) = true) := List.pairwise_mergeSort
      (fun x y z h1 h2 => by
        rw [Bool.not_eq_true'] at *
        exact befS_ntrans _ _ _ h2 h1)
      (fun x y => by
        cases c : befS y x with
        | false => rfl
        | true => rw [befS_asymm c]; rfl) _
    have h2 : (sortSS (sortLL (codesL (kindB n e c) (2 ^ n)))).Nodup := (List.mergeSort_perm _ _).nodup_iff.2 hnd
    refine List.Pairwise.imp ?_ (List.pairwise_and_iff.2 ⟨h1, h2⟩)
    rintro x y ⟨h3, h4⟩
    rw [Bool.not_eq_true'] at h3
    cases c : befS x y with
    | true => rfl
    | false => exact absurd (befS_tri x y c h3) h4
  · rw [levels_mem n hn, show s ∈ sortSS (sortLL (codesL (kindB n e c) (2 ^ n))) ↔ s ∈ sortLL (codesL (kindB n e c) (2 ^ n)) from List.mem_mergeSort, sortLL_mem, codes_mem hn]
    constructor
    · rintro ⟨h1, h2, _⟩
      exact ⟨h1, by unfold kindB; rw [(h1.code hn).2]; exact h2⟩
    · rintro ⟨h1, h2⟩
      unfold kindB at h2
      rw [(h1.code hn).2] at h2
      exact ⟨h1, h2, Nat.zero_le _, by have := h1.len; omega⟩
include hn he in
theorem l4_codes {R : List (List Int)} (out : List (List Int)) (z : Nat) (hz : z ≤ 8) (ho : out.length ≤ 256 * z) (hR : Ev (fun k => spec_l4Sets.l0 k c (out ++ sortLL (codesL (kindZ n e c z) (2 ^ n))) (wrap64 ((z : Int) + 1)) (n : Int) e) R) (d : Nat) : ∀ m : Nat, 2 ^ n - m = d → m ≤ 2 ^ n →
    Ev (fun k => spec_l4Sets.l1 k c out (z : Int) (codesL (kindZ n e c z) m) (m : Int) (n : Int) e) R := by
  have hpow : 2 ^ n ≤ 256 := Nat.pow_le_pow_right (n := 2) (by decide) (show n ≤ 8 from hn)
  have hsh : shl .i64 1 (n : Int) = ((2 ^ n : Nat) : Int) := by
    have : ∀ i : Fin 9, shl .i64 1 i = ((2 ^ i.val : Nat) : Int) := by decide +kernel
    exact this ⟨n, by omega⟩
  induction d with
  | zero =>
    intro m h0 h1
    have hm : m = 2 ^ n := by omega
    subst hm
    refine Ev.step (fun k => by rw [spec_l4Sets.l1]) ?_
    refine Ev.pos (by omega) ?_
    rw [hsh]
    refine Ev.neg (by omega) ?_
    refine Ev.bind (l2Sorted_nodup _ (by have := codesL_len (kindZ n e c z) (2 ^ n); omega) (fun s hs => by
      have := (((codes_mem hn _ s).1 hs).1).len
      omega) (codes_nodup hpow _)) ?_
    refine Ev.pos (by rw [sortLL_len]; have := codesL_len (kindZ n e c z) (2 ^ n); omega) ?_
    exact hR
  | succ d ih =>
    intro m h0 h1
    have hb : 0 ≤ (m : Int) ∧ (m : Int) < ((2 ^ n : Nat) : Int) := by omega
    have hset := bagL_set hn hb
    have hlen := hset.len
    have hkl := l4Has_ev (n : Int) e c (bagL (m : Int)) he (by omega) (by omega)
    have h5 := ih (m + 1) (by omega) (by omega)
    rw [codesL_succ, ← wrap_up (show m < 2 ^ n by omega) (by omega)] at h5
    have hcl := codesL_len (kindZ n e c z) m
    refine Ev.step (fun k => by rw [spec_l4Sets.l1]) ?_
    refine Ev.pos (by omega) ?_
    rw [hsh]
    refine Ev.pos hb.2 ?_
    refine Ev.bind (bits_ev n (m : Int) hn hb) ?_
    by_cases cz : (bagL (m : Int)).length = z
    · refine Ev.pos (by omega) ?_
      refine Ev.bind hkl ?_
      cases ck : kindI (n : Int) e c (bagL (m : Int)) with
      | true =>
        rw [if_pos (by unfold kindZ kindB; rw [ck, decide_eq_true cz]; rfl)] at h5
        refine Ev.pos rfl ?_
        refine Ev.pos (by omega) ?_
        exact h5
      | false =>
        rw [if_neg (by unfold kindZ kindB; rw [ck, Bool.and_false]; decide), List.append_nil] at h5
        refine Ev.neg (by decide) ?_
        exact h5
    · rw [if_neg (by unfold kindZ; rw [decide_eq_false cz, Bool.false_and]; decide), List.append_nil] at h5
      refine Ev.neg (by omega) ?_
      exact h5
include hn he in
theorem l4_levels (d : Nat) : ∀ (z : Nat) (out : List (List Int)), n + 1 - z = d → z ≤ n + 1 → out.length ≤ 256 * z → Ev (fun k => spec_l4Sets.l0 k c out (z : Int) (n : Int) e) (out ++ levels n e c d z) := by
  have hpow : 2 ^ n ≤ 256 := Nat.pow_le_pow_right (n := 2) (by decide) (show n ≤ 8 from hn)
  induction d with
  | zero =>
    intro z out h0 h1 h2
    simp only [levels, List.append_nil]
    refine Ev.step (fun k => by rw [spec_l4Sets.l0]) ?_
    exact Ev.neg (by omega) (Ev.now _)
  | succ d ih =>
    intro z out h0 h1 h2
    have hlen := codesL_len (kindZ n e c z) (2 ^ n)
    have h3 := ih (z + 1) (out ++ sortLL (codesL (kindZ n e c z) (2 ^ n))) (by omega) (by omega) (by rw [List.length_append, sortLL_len]; omega)
    have hw : wrap64 ((z : Int) + 1) = ((z + 1 : Nat) : Int) := by unfold wrap64; omega
    rw [← hw] at h3
    have h4 := l4_codes n hn e c he out z (by omega) h2 h3 (2 ^ n) 0 (by omega) (Nat.zero_le _)
    rw [show codesL (kindZ n e c z) 0 = [] from rfl] at h4
    simp only [levels]
    rw [← List.append_assoc]
    refine Ev.step (fun k => by rw [spec_l4Sets.l0]) ?_
    refine Ev.pos (by omega) ?_
    simpa only [Int.natCast_zero] using h4
include hn he in
theorem l4Sets_ev : Ev (fun k => spec_l4Sets.f k (n : Int) e c) (sortSS (sortLL (codesL (kindB n e c) (2 ^ n)))) := by
  have h := l4_levels n hn e c he (n + 1) 0 [] (by omega) (by omega) (by simp)
  rw [List.nil_append, levels_eq n hn] at h
  unfold spec_l4Sets.f
  simpa only [Int.natCast_zero] using h
include hn he in
theorem ofKind_ev (hg : okG (n : Int) e = true) : Ev (fun k => impl_Graph_ofKind.f k (n : Int) e c) (sortSS (sortLL (codesL (kindB n e c) (2 ^ n)))) := by
  have hpow : 2 ^ n ≤ 256 := Nat.pow_le_pow_right (n := 2) (by decide) (show n ≤ 8 from hn)
  have hw : wrap64 ((n : Int) - 1) = (n : Int) - 1 := wrap_nat (by omega) (by omega)
  obtain ⟨K, hK⟩ := uniform (fun b k => impl_Graph_hasKind.f k (n : Int) e c (b : Int) = some (kindB n e c (b : Int))) (2 ^ n) (fun b hb => by
    have hb' : 0 ≤ (b : Int) ∧ (b : Int) < ((2 ^ n : Nat) : Int) := by omega
    have hs := bagL_set hn hb'
    have h := hasKind_ev (n : Int) e c (bagL (b : Int)) he (by have := hs.len; omega) hg (by rw [hw]; exact hs.ris)
    rw [bag_left_at ⟨hb'.1, by omega⟩] at h
    exact h)
  refine ⟨K, fun k hk => ?_⟩
  have h1 := hK k hk
  show impl_Graph_ofKind.f k (n : Int) e c = _
  unfold impl_Graph_ofKind.f
  rw [if_pos (show kindOk k (n : Int) e c from ⟨by omega, fun b hb => by rw [Int.toNat_natCast] at hb; rw [h1 b.val hb]; rfl⟩), Int.toNat_natCast]
  have e1 : selI (kindP k (n : Int) e c) (2 ^ n) 0 = selI (kindB n e c) (2 ^ n) 0 := selI_congr _ _ _ _ fun z h0 h2 => by
    have := h1 z.toNat (by omega)
    rw [show ((z.toNat : Nat) : Int) = z by omega] at this
    unfold kindP
    rw [this]
    rfl
  unfold codesL
  rw [e1]
include hn in
/-- There is a set of each kind. -/
theorem kind_some (hg : okG (n : Int) e = true) : 0 < (sortSS (sortLL (codesL (kindB n e c) (2 ^ n)))).length := by
  have h1 := okG_all hg
  have key : ∃ s, SetN n s ∧ kindI (n : Int) e c s = true := by
    unfold kindI
    have hall : SetN n (selI (fun _ => true) n 0) := ⟨selI_pw _ _ _, fun x hx => by have := ((selI_mem _ _ _ _).1 hx).1; omega⟩
    have hin : ∀ x, 0 ≤ x → x < (n : Int) → x ∈ selI (fun _ => true) n 0 := fun x h0 h2 => (selI_mem _ _ _ _).2 ⟨by omega, rfl⟩
    by_cases c1 : c = 1
    · refine ⟨_, hall, ?_⟩
      rw [if_pos c1]
      unfold coverI
      rw [List.all_eq_true]
      intro s hs
      have := h1.2.2 s hs
      rw [decide_eq_true (hin s.f0 (by omega) (by omega)), Bool.true_or]
    · by_cases c2 : c = 2
      · refine ⟨[], ⟨List.Pairwise.nil, fun x hx => by simp at hx⟩, ?_⟩
        rw [if_neg c1, if_pos c2]
        rfl
      · refine ⟨_, hall, ?_⟩
        rw [if_neg c1, if_neg c2, Int.toNat_natCast]
        have : ∀ (d : Nat) (x : Int), 0 ≤ x → x + (d : Int) ≤ (n : Int) → domN e (selI (fun _ => true) n 0) d x = true := by
          intro d
          induction d with
          | zero => intro x _ _; rfl
          | succ d ih =>
            intro x h0 h2
            simp only [domN]
            rw [decide_eq_true (hin x h0 (by omega)), Bool.true_or, if_pos rfl]
            exact ih (x + 1) (by omega) (by omega)
        exact this n 0 (by omega) (by omega)
  obtain ⟨s, hs, hk⟩ := key
  have : s ∈ sortSS (sortLL (codesL (kindB n e c) (2 ^ n))) := by
    rw [show s ∈ sortSS (sortLL (codesL (kindB n e c) (2 ^ n))) ↔ s ∈ sortLL (codesL (kindB n e c) (2 ^ n)) from List.mem_mergeSort, sortLL_mem, codes_mem hn]
    exact ⟨hs, by unfold kindB; rw [(hs.code hn).2]; exact hk⟩
  exact List.length_pos_of_mem this
end
end Go.Proofs.Ythnojbafclglpaa.P
namespace Go.Proofs.Ythnojbafclglpaa.P
open Go.RowKit Go.Proofs.YthnojbafclglpaaW.PrintWords Go.Proofs.YthnojbafclglpaaW.PrintLast Go.Proofs.YthnojbafclglpaaW.PrintMore
set_option linter.unusedVariables false
set_option linter.unusedSimpArgs false

theorem best_loop (c : Int) (T : List (List Int)) (hT : T.length ≤ 1048576) (hs : ∀ s ∈ T, s.length ≤ 1048576) (d : Nat) : ∀ (m : Nat) (b : List Int), T.length - m = d → m ≤ T.length → Ev (fun k => spec_l4Best.l0 k c T b (m : Int)) ((T.drop m).foldl (bestStep c) b) := by
  induction d with
  | zero =>
    intro m b h0 h1
    rw [List.drop_eq_nil_of_le (by omega)]
    refine Ev.step (fun k => by rw [spec_l4Best.l0]) ?_
    exact Ev.neg (by omega) (Ev.now _)
  | succ d ih =>
    intro m b h0 h1
    have hm : m < T.length := by omega
    have h2 := ih (m + 1) (bestStep c b T[m]) (by omega) (by omega)
    rw [← wrap_up hm (by omega)] at h2
    rw [List.drop_eq_getElem_cons hm, List.foldl_cons]
    refine Ev.step (fun k => by rw [spec_l4Best.l0]) ?_
    refine Ev.pos (by omega) ?_
    by_cases c2 : c = 2
    · refine Ev.pos c2 ?_
      refine Ev.pos (by omega) ?_
      rw [rdL_at T m hm]
      by_cases cl : b.length < T[m].length
      · rw [show bestStep c b T[m] = T[m] from if_pos ⟨c2, cl⟩] at h2 ⊢
        exact Ev.pos (by omega) h2
      · rw [show bestStep c b T[m] = b from if_neg (fun h => cl h.2)] at h2 ⊢
        exact Ev.neg (by omega) h2
    · rw [show bestStep c b T[m] = b from if_neg (fun h => c2 h.1)] at h2 ⊢
      exact Ev.neg c2 h2
theorem bestL_mem (c : Int) (T : List (List Int)) (h : 0 < T.length) : bestL c T ∈ T := by
  have : ∀ (t : List (List Int)) (b : List Int), t.foldl (bestStep c) b = b ∨ t.foldl (bestStep c) b ∈ t := by
    intro t
    induction t with
    | nil => intro b; exact .inl rfl
    | cons x t ih =>
      intro b
      rw [List.foldl_cons]
      rcases ih (bestStep c b x) with e | e
      · rw [e]
        unfold bestStep
        split
        · exact .inr (List.mem_cons_self ..)
        · exact .inl rfl
      · exact .inr (List.mem_cons_of_mem _ e)
  cases T with
  | nil => simp at h
  | cons x t =>
    rcases this (x :: t) x with e | e
    · show (x :: t).foldl (bestStep c) x ∈ _
      rw [e]
      exact List.mem_cons_self ..
    · exact e
theorem best_spec (n : Nat) (hn : n ≤ 8) (e : List S64) (c : Int) (he : e.length ≤ 1048576) (hg : okG (n : Int) e = true) : Ev (fun k => spec_l4Best.f k (n : Int) e c) (bestL c (sortSS (sortLL (codesL (kindB n e c) (2 ^ n))))) := by
  have hpow : 2 ^ n ≤ 256 := Nat.pow_le_pow_right (n := 2) (by decide) (show n ≤ 8 from hn)
  have h1 := l4Sets_ev n hn e c he
  have h2 := kind_some n hn e c hg
  have hlen : (sortSS (sortLL (codesL (kindB n e c) (2 ^ n)))).length ≤ 256 := by
    rw [show (sortSS (sortLL (codesL (kindB n e c) (2 ^ n)))).length = _ from List.length_mergeSort _, sortLL_len]
    exact Nat.le_trans (codesL_len _ _) hpow
  have hs : ∀ s ∈ sortSS (sortLL (codesL (kindB n e c) (2 ^ n))), s.length ≤ 1048576 := fun s hs => by
    rw [show s ∈ sortSS (sortLL (codesL (kindB n e c) (2 ^ n))) ↔ s ∈ sortLL (codesL (kindB n e c) (2 ^ n)) from List.mem_mergeSort, sortLL_mem, codes_mem hn] at hs
    have := hs.1.len
    omega
  generalize sortSS (sortLL (codesL (kindB n e c) (2 ^ n))) = T at h1 h2 hlen hs ⊢
  unfold spec_l4Best.f
  refine Ev.bind h1 ?_
  refine Ev.pos (by omega) ?_
  have h3 := best_loop c T (by omega) hs (T.length - 1) 1 (rd_L4 T 0) rfl (by omega)
  have h4 : (T.drop 1).foldl (bestStep c) (rd_L4 T 0) = bestL c T := by
    cases T with
    | nil => simp at h2
    | cons x t =>
      show t.foldl (bestStep c) x = (x :: t).foldl (bestStep c) x
      rw [List.foldl_cons, show bestStep c x x = x from by unfold bestStep; split <;> rfl]
  rw [h4] at h3
  exact h3
theorem best_impl (n : Nat) (hn : n ≤ 8) (e : List S64) (c : Int) (he : e.length ≤ 1048576) (hg : okG (n : Int) e = true) : Ev (fun k => impl_Graph_best.f k (n : Int) e c) (bestL c (sortSS (sortLL (codesL (kindB n e c) (2 ^ n))))) := by
  unfold impl_Graph_best.f
  refine Ev.bind (ofKind_ev n hn e c he hg) ?_
  exact Ev.pos (kind_some n hn e c hg) (Ev.now _)
theorem Both_FnExactBestOfKind (a0_0 : Int) (l0_1 : List S64) (a1 : Int) (w0_0 : (Lit.int .i64 a0_0).wf = true) (w0_1 : FitP l0_1) (w1 : (Lit.int .i64 a1).wf = true) (hn0 : l0_1.length ≤ 1048576) : ∃ (q0 : List Int) (q1 : Bool), Ev (fun k => spec_BestOfKind.f k a0_0 l0_1 a1) (q0, q1) ∧ Ev (fun k => impl_BestOfKind.f k a0_0 l0_1 a1) (q0, q1) ∧ q0.length ≤ 1048576 := by
  by_cases h : okG a0_0 l0_1 = true
  · by_cases hc : 1 ≤ a1 ∧ a1 ≤ 3
    · have h1 := okG_all h
      obtain ⟨n, rfl⟩ := Int.eq_ofNat_of_zero_le h1.1
      have hn : n ≤ 8 := by omega
      refine ⟨bestL a1 (sortSS (sortLL (codesL (kindB n l0_1 a1) (2 ^ n)))), true, ?_, ?_, ?_⟩
      · unfold spec_BestOfKind.f spec_l4Good.f
        refine Ev.bind (Ev.bind (l2Good_ev _ _ hn0) (Ev.pos h (Ev.bindo (l4Kind_at a1) (Ev.now _)))) ?_
        refine Ev.pos (by simp [hc]) ?_
        exact Ev.bind (best_spec n hn l0_1 a1 hn0 h) (Ev.now _)
      · unfold impl_BestOfKind.f
        refine Ev.bind (impl_IsGraph_ev _ _ hn0) ?_
        refine Ev.pos h ?_
        refine Ev.bindo (kind_at a1) ?_
        refine Ev.pos (by simp [hc]) ?_
        exact Ev.bind (best_impl n hn l0_1 a1 hn0 h) (Ev.now _)
      · have hm := bestL_mem a1 _ (kind_some n hn l0_1 a1 h)
        rw [show bestL a1 (sortSS (sortLL (codesL (kindB n l0_1 a1) (2 ^ n)))) ∈ sortSS (sortLL (codesL (kindB n l0_1 a1) (2 ^ n))) ↔ _ ∈ sortLL (codesL (kindB n l0_1 a1) (2 ^ n)) from List.mem_mergeSort, sortLL_mem, codes_mem hn] at hm
        have := hm.1.len
        omega
    · refine ⟨[], false, ?_, ?_, Nat.zero_le _⟩
      · unfold spec_BestOfKind.f spec_l4Good.f
        refine Ev.bind (Ev.bind (l2Good_ev _ _ hn0) (Ev.pos h (Ev.bindo (l4Kind_at a1) (Ev.now _)))) ?_
        exact Ev.neg (by simp; omega) (Ev.now _)
      · unfold impl_BestOfKind.f
        refine Ev.bind (impl_IsGraph_ev _ _ hn0) ?_
        refine Ev.pos h ?_
        refine Ev.bindo (kind_at a1) ?_
        exact Ev.neg (by simp; omega) (Ev.now _)
  · refine ⟨[], false, ?_, ?_, Nat.zero_le _⟩
    · unfold spec_BestOfKind.f spec_l4Good.f
      refine Ev.bind (Ev.bind (l2Good_ev _ _ hn0) (Ev.neg h (Ev.now _))) ?_
      exact Ev.neg (by decide) (Ev.now _)
    · unfold impl_BestOfKind.f
      refine Ev.bind (impl_IsGraph_ev _ _ hn0) ?_
      exact Ev.neg h (Ev.now _)
end Go.Proofs.Ythnojbafclglpaa.P
namespace Go.Proofs.Ythnojbafclglpaa.P
open Go.RowKit Go.Proofs.YthnojbafclglpaaW.PrintWords Go.Proofs.YthnojbafclglpaaW.PrintLast Go.Proofs.YthnojbafclglpaaW.PrintMore
set_option linter.unusedVariables false
set_option linter.unusedSimpArgs false

def seqI : Nat → Int → List Int
  | 0, _ => []
  | n + 1, k => k :: seqI n (wrap64 (k + 1))
def endI : Nat → Int → Int
  | 0, k => k
  | n + 1, k => endI n (wrap64 (k + 1))
theorem seqI_len (n : Nat) : ∀ k, (seqI n k).length = n := by
  induction n with
  | zero => intro k; rfl
  | succ n ih => intro k; simp [seqI, ih]
theorem endI_at (n : Nat) : ∀ k, 0 ≤ k → k + (n : Int) ≤ 4611686018427387904 → endI n k = k + (n : Int) := by
  induction n with
  | zero => intro k h1 h2; simp [endI]
  | succ n ih =>
    intro k h1 h2
    have e1 : wrap64 (k + 1) = k + 1 := wrap_nat (by omega) (by omega)
    rw [endI, e1, ih (k + 1) (by omega) (by omega)]
    omega
theorem markInt_loop (d : Nat) : ∀ (done rest : List Int) (c : Int), rest.length = d → done.length + d ≤ 1048576 →
    Ev (fun k => laws_markIntS.l0 k (done ++ rest) c (done.length : Int)) (endI d c, done ++ seqI d c) := by
  induction d with
  | zero =>
    intro done rest c h0 h1
    refine Ev.step (fun k => by rw [laws_markIntS.l0]) ?_
    have : rest = [] := List.eq_nil_of_length_eq_zero h0
    subst this
    refine Ev.neg (by simp) ?_
    exact Ev.now _
  | succ d ih =>
    intro done rest c h0 h1
    obtain ⟨x, t, rfl⟩ : ∃ x t, rest = x :: t := by
      cases rest with
      | nil => simp at h0
      | cons x t => exact ⟨x, t, rfl⟩
    have h2 : t.length = d := by simpa using h0
    refine Ev.step (fun k => by rw [laws_markIntS.l0]) ?_
    refine Ev.pos (by simp; omega) (Ev.pos (by omega) ?_)
    have e : (done ++ x :: t).set ((done.length : Int)).toNat c = (done ++ [c]) ++ t := by
      rw [Int.toNat_natCast]
      simp
    have hw : wrap64 ((done.length : Int) + 1) = ((done ++ [c]).length : Int) := by
      rw [List.length_append, List.length_singleton]
      exact wrap_up (n := done.length + 1) (by omega) (by omega)
    rw [e, hw]
    have := ih (done ++ [c]) t (wrap64 (c + 1)) h2 (by rw [List.length_append, List.length_singleton]; omega)
    simpa only [seqI, endI, List.append_assoc, List.singleton_append] using this
theorem markInt_ev (l : List Int) (c : Int) (hl : l.length ≤ 1048576) : Ev (fun k => laws_markIntS.f k l c) (endI l.length c, seqI l.length c) := by
  unfold laws_markIntS.f
  have := markInt_loop l.length [] l c rfl (by simpa using hl)
  simpa only [List.nil_append, List.length_nil, Int.ofNat_eq_natCast, Int.natCast_zero] using this
theorem heldInt_loop (d : Nat) : ∀ (done : List Int) (c : Int), done.length + d ≤ 1048576 →
    Ev (fun k => laws_heldIntS.l0 k (done ++ seqI d c) c (done.length : Int)) (endI d c) := by
  induction d with
  | zero =>
    intro done c h1
    refine Ev.step (fun k => by rw [laws_heldIntS.l0]) ?_
    refine Ev.neg (by simp [seqI]) ?_
    exact Ev.now _
  | succ d ih =>
    intro done c h1
    refine Ev.step (fun k => by rw [laws_heldIntS.l0]) ?_
    have hlen : (done ++ seqI (d + 1) c).length = done.length + (d + 1) := by rw [List.length_append, seqI_len]
    refine Ev.pos (by rw [hlen]; omega) (Ev.pos (by omega) ?_)
    have hr : rd (done ++ seqI (d + 1) c) (done.length : Int) = c := by
      rw [rd_at _ _ (by rw [hlen]; omega)]
      simp [seqI]
    refine Ev.pos hr ?_
    have hw : wrap64 ((done.length : Int) + 1) = ((done ++ [c]).length : Int) := by
      rw [List.length_append, List.length_singleton]
      exact wrap_up (n := done.length + 1) (by omega) (by omega)
    rw [hw]
    have := ih (done ++ [c]) (wrap64 (c + 1)) (by rw [List.length_append, List.length_singleton]; omega)
    simpa only [seqI, endI, List.append_assoc, List.singleton_append] using this
theorem heldInt_ev (n : Nat) (c : Int) (hn : n ≤ 1048576) : Ev (fun k => laws_heldIntS.f k (seqI n c) c) (endI n c) := by
  unfold laws_heldIntS.f
  have := heldInt_loop n [] c (by simpa using hn)
  simpa only [List.nil_append, List.length_nil, Int.ofNat_eq_natCast, Int.natCast_zero] using this
theorem end1_pos (n : Nat) (hn : n ≤ 1048576) : ¬ endI n 1 < 0 := by rw [endI_at n 1 (by omega) (by omega)]; omega
end Go.Proofs.Ythnojbafclglpaa.P
namespace Go.Proofs.Ythnojbafclglpaa.P
open Go.RowKit Go.Proofs.YthnojbafclglpaaW.PrintWords Go.Proofs.YthnojbafclglpaaW.PrintLast Go.Proofs.YthnojbafclglpaaW.PrintMore
set_option linter.unusedVariables false
set_option linter.unusedSimpArgs false

theorem markGraph_ex (a : Int) (l : List S64) (h : l.length ≤ 1048576) : ∃ k b, laws_markGraph.f a l 1 = some (k, b) ∧ ¬ k < 0 ∧ k ≤ 2251799813685248 := ⟨_, _, markGraph_at a l 1, mark1_pos l h, by rw [mark2_fst l 1 (by omega) (by omega)]; omega⟩
theorem markInt_held (l : List Int) (h : l.length ≤ 1048576) : ∃ k b n, laws_markIntS.f n l 1 = some (k, b) ∧ ∃ m, laws_heldIntS.f m b 1 = some k ∧ ¬ k < 0 := by
  obtain ⟨n, hn⟩ := Ev.rounds (markInt_ev l 1 h)
  obtain ⟨m, hm⟩ := Ev.rounds (heldInt_ev l.length 1 h)
  exact ⟨_, _, n, hn, m, hm, end1_pos _ h⟩
end Go.Proofs.Ythnojbafclglpaa.P
namespace Go.Proofs.Ythnojbafclglpaa.P
open Go.RowKit Go.Proofs.YthnojbafclglpaaW.PrintWords Go.Proofs.YthnojbafclglpaaW.PrintLast Go.Proofs.YthnojbafclglpaaW.PrintMore
set_option linter.unusedVariables false
set_option maxHeartbeats 1000000 in
theorem Law_FnExactBestOfKind (a0_0 : Int) (A0_1 : Option Addr) (ca0_1 : Nat) (l0_1 : List (S64)) (a1 : Int) (w : World) (hr0_1 : Kd.C k64 w A0_1 l0_1.length l0_1) (hc0_1 : l0_1.length ≤ ca0_1) (w0_0 : (Lit.int .i64 a0_0).wf = true) (w0_1 : FitP l0_1) (w1 : (Lit.int .i64 a1).wf = true) :
    Calls Try.prog 4 #[.agg #[.int .i64 a0_0, .slice A0_1 l0_1.length ca0_1], .int .i64 a1] w fun e w' => e = .returned (.bool true) ∧ Below w.heap.size w w' := by
  obtain ⟨t0, h0, m0⟩ := sz_graph a0_0 l0_1 w0_1.1
  by_cases c0 : t0 < 0
  · exact laws_FnExactBestOfKind.exit0 a0_0 A0_1 ca0_1 l0_1 a1 t0 w hr0_1 hc0_1 c0 h0
  have hn0 := m0.resolve_left c0
  obtain ⟨q0, q1, es, ei, hb1⟩ := Both_FnExactBestOfKind a0_0 l0_1 a1 w0_0 w0_1 w1 hn0
  obtain ⟨k1, h1⟩ := Ev.rounds (toGraph_ev a0_0 l0_1 hn0)
  obtain ⟨k2, h2⟩ := Ev.rounds (es)
  obtain ⟨k3, h3⟩ := Ev.rounds (ei)
  obtain ⟨k4, h4⟩ := Ev.rounds (eqIntS_ev q0 hb1)
  obtain ⟨k5, h5⟩ := Ev.rounds (eqGraph_ev a0_0 l0_1 hn0)
  obtain ⟨kk0, mk0_0, h6, nkk0, pkk0⟩ := markGraph_ex a0_0 l0_1 hn0
  obtain ⟨kk1, mk1_0, k7, h7, k8, h8, nkk1⟩ := markInt_held q0 hb1
  exact laws_FnExactBestOfKind.walk a0_0 A0_1 ca0_1 l0_1 a1 k1 k2 k3 k4 k5 k7 k8 t0 q0 q1 kk0 mk0_0 kk1 mk1_0 w hr0_1 hc0_1 c0 h0 h1 h2 h3 h4 h5 h6 h7 h8 nkk0 nkk1
end Go.Proofs.Ythnojbafclglpaa.P
