import Derived.Test.YtadjbmcfgjmhkaaGreatLockedTokensG24
namespace Go.Proofs.YtadjbmcfgjmhkaaGreat.P
open Go.RowKit Go.Proofs.YtadjbmcfgjmhkaaGreatW.PrintWords Go.Proofs.YtadjbmcfgjmhkaaGreatW.PrintLast Go.Proofs.YtadjbmcfgjmhkaaGreatW.PrintMore
set_option linter.unusedVariables false
set_option linter.unusedSimpArgs false
def comL (a b : List Int) : List Int := a.filter fun x => decide (x ∈ b)
theorem only_only (a b : List Int) : onlyL a (onlyL a b) = comL a b := by
 unfold comL
 conv => lhs; unfold onlyL
 refine List.filter_congr fun x hx => ?_
 rw [Bool.eq_iff_iff]
 simp only [List.mem_filter, decide_eq_true_eq, Bool.not_eq_true', decide_eq_false_iff_not]
 constructor
 · intro h
   by_cases c : x ∈ b
   · exact c
   · exact absurd ⟨hx, c⟩ h
 · intro h hh
   exact hh.2 h
theorem comL_set {a : List Int} (h : SetN 8 a) (b : List Int) : SetN 8 (comL a b) := ⟨h.1.filter _, fun z hz => h.2 z (List.mem_filter.1 hz).1⟩
theorem common_ev (a b : List Int) (ha : a.length ≤ 1048576) (hb : b.length ≤ 1048576) : Ev (fun k => spec_l3Common.f k a b) (comL a b) := by
 unfold spec_l3Common.f
 refine Ev.bind (only_ev a b ha hb) ?_
 have h1 := onlyL_len a b
 refine Ev.bind (only_ev a (onlyL a b) ha (by omega)) ?_
 rw [only_only]
 exact Ev.now _
theorem both_bits {b c : Int} (hb : 0 ≤ b ∧ b < 256) (hc : 0 ≤ c ∧ c < 256) : (0 ≤ Go.bits .and .u64 b c ∧ Go.bits .and .u64 b c < 256) ∧ ∀ y, 0 ≤ y → y < 8 → hasI (Go.bits .and .u64 b c) y = (hasI b y && hasI c y) := by
 obtain ⟨n, rfl⟩ := Int.eq_ofNat_of_zero_le hb.1
 obtain ⟨m, rfl⟩ := Int.eq_ofNat_of_zero_le hc.1
 have hn : n < 256 := by omega
 have hm : m < 256 := by omega
 have h1 : n &&& m ≤ n := Nat.and_le_left
 rw [(bits_nat .u64 8 (by decide) wrap8_ n m hn hm).1]
 refine ⟨by omega, fun y h0 h8 => ?_⟩
 obtain ⟨z, rfl⟩ := Int.eq_ofNat_of_zero_le h0
 rw [hasI_bit_ _ z (by omega) (by omega), hasI_bit_ n z hn (by omega), hasI_bit_ m z hm (by omega), Nat.testBit_and]
theorem and_com {x y : List Int} (hx : SetN 8 x) (hy : SetN 8 y) {b : Int} (hb : 0 ≤ b ∧ b < 256) (hbx : bagL b = x) : bagL (Go.bits .and .u64 b (bagI 0 y)) = comL x y ∧ (0 ≤ Go.bits .and .u64 b (bagI 0 y) ∧ Go.bits .and .u64 b (bagI 0 y) < 256) := by
 have h2 := (hy.code (by decide)).1
 have h3 := both_bits (b := b) (c := bagI 0 y) hb (by omega)
 refine ⟨?_, h3.1⟩
 refine pw_unique (selI_pw _ _ _) (comL_set hx y).1 fun z => ?_
 have hm : z ∈ x ↔ (0 ≤ z ∧ z < 0 + ((8 : Nat) : Int)) ∧ hasI b z = true := by rw [← hbx]; exact selI_mem _ _ _ _
 unfold comL bagL
 rw [selI_mem, List.mem_filter, hm, decide_eq_true_eq]
 constructor
 · rintro ⟨h4, h5⟩
   rw [h3.2 z (by omega) (by omega), bag_mem8 hy z (by omega) (by omega), Bool.and_eq_true, decide_eq_true_eq] at h5
   exact ⟨⟨h4, h5.1⟩, h5.2⟩
 · rintro ⟨⟨h4, h5⟩, h6⟩
   refine ⟨h4, ?_⟩
   rw [h3.2 z (by omega) (by omega), bag_mem8 hy z (by omega) (by omega), h5, decide_eq_true h6]
   rfl
section
variable (ls : List (List Int)) (e : List S69) (D : List Int) (hl : ls.length ≤ 1048576) (hD : D.length = ls.length) (h8 : ∀ s ∈ ls, SetN 8 s)
include hl hD h8
theorem locked_loop (d : Nat) : ∀ (m : Nat) (c : List Int) (b : Int), ls.length - m = d → m ≤ ls.length → SetN 8 c → (0 ≤ b ∧ b < 256) → bagL b = c →
  ∃ R : List Int, SetN 8 R ∧ Ev (fun k => spec_LockedTokens.l0 k D c (m : Int) ls e) (R, true) ∧ Ev (fun k => impl_Graph_locked.l0 k b D (D.length : Int) (m : Int) ls e) R := by
 induction d with
 | zero =>
  intro m c b h0 h1 hc hb hbc
  refine ⟨c, hc, ?_, ?_⟩
  · exact Ev.step (fun k => by rw [spec_LockedTokens.l0]) (Ev.neg (by omega) (Ev.now _))
  · refine Ev.step (fun k => by rw [impl_Graph_locked.l0]) (Ev.neg (by omega) ?_)
    refine Ev.bind (bag_list_ev b) ?_
    rw [show selI (hasI b) 8 0 = c from hbc]
    exact Ev.now _
 | succ d ih =>
  intro m c b h0 h1 hc hb hbc
  have hm : m < ls.length := by omega
  have hmD : m < D.length := by omega
  have hs := h8 ls[m] (List.getElem_mem _)
  have hsl := len8 hs
  have hcl := len8 hc
  by_cases cd : D[m] ≥ 0
  · have ha := and_com hc hs hb hbc
    obtain ⟨R, r0, r1, r2⟩ := ih (m + 1) (comL c ls[m]) (Go.bits .and .u64 b (bagI 0 ls[m])) (by omega) (by omega) (comL_set hc _) ha.2 ha.1
    refine ⟨R, r0, ?_, ?_⟩
    · refine Ev.step (fun k => by rw [spec_LockedTokens.l0]) (Ev.pos (by omega) (Ev.pos (by omega) ?_))
      rw [rd_at D m hmD, rdL_at ls m hm, wrap_up hm (by omega)]
      refine Ev.pos cd (Ev.pos (by omega) ?_)
      exact Ev.bind (common_ev c ls[m] (by omega) (by omega)) r1
    · refine Ev.step (fun k => by rw [impl_Graph_locked.l0]) (Ev.pos (by omega) (Ev.pos (by omega) (Ev.pos (by omega) ?_)))
      rw [rd_at D m hmD, rdL_at ls m hm, wrap_up hm (by omega)]
      refine Ev.pos cd (Ev.pos (by omega) ?_)
      exact Ev.bind (bagOf_ev ls[m] (by omega) fun z hz => hs.2 z hz) r2
  · obtain ⟨R, r0, r1, r2⟩ := ih (m + 1) c b (by omega) (by omega) hc hb hbc
    refine ⟨R, r0, ?_, ?_⟩
    · refine Ev.step (fun k => by rw [spec_LockedTokens.l0]) (Ev.pos (by omega) (Ev.pos (by omega) ?_))
      rw [rd_at D m hmD, wrap_up hm (by omega)]
      exact Ev.neg cd r1
    · refine Ev.step (fun k => by rw [impl_Graph_locked.l0]) (Ev.pos (by omega) (Ev.pos (by omega) (Ev.pos (by omega) ?_)))
      rw [rd_at D m hmD, wrap_up hm (by omega)]
      exact Ev.neg cd r2
end
theorem Both_FnExactLockedTokens (a0_0 : Int) (l0_1 : List S69) (l1 : List Int) (w0_0 : (Lit.int .i64 a0_0).wf = true) (w0_1 : FitP l0_1) (w1 : FitL l1) (hn0 : l0_1.length ≤ 1048576) (hl1 : l1.length ≤ 1048576) : ∃ (q0 : List Int) (q1 : Bool), Ev (fun k => spec_LockedTokens.f k a0_0 l0_1 l1) (q0, q1) ∧ Ev (fun k => impl_LockedTokens.f k a0_0 l0_1 l1) (q0, q1) ∧ q0.length ≤ 1048576 := by
 have hi := twoSets_ev a0_0 l0_1 l1 l1 hn0 hl1 hl1
 have hs : Ev (fun k => spec_l3Good.f k a0_0 l0_1 l1) (okG a0_0 l0_1 && setOk a0_0 l0_1 l1) := by
   unfold spec_l3Good.f
   refine Ev.bind (l2Good_ev a0_0 l0_1 hn0) ?_
   by_cases hg : okG a0_0 l0_1 = true
   · rw [hg, Bool.true_and]
     exact Ev.pos rfl (Ev.bind (freeS_ev_ a0_0 l0_1 l1 hn0 hl1 hg) (Ev.now _))
   · rw [Bool.eq_false_iff.mpr hg, Bool.false_and]
     exact Ev.neg (by decide) (Ev.now _)
 rw [show twoR a0_0 l0_1 l1 l1 = (okG a0_0 l0_1 && setOk a0_0 l0_1 l1) from by unfold twoR; rw [Bool.and_self]] at hi
 by_cases c : (okG a0_0 l0_1 && setOk a0_0 l0_1 l1) = true
 · have c' := c
   rw [Bool.and_eq_true] at c'
   obtain ⟨hg, hx⟩ := c'
   have h1 := okG_all hg
   obtain ⟨n, rfl⟩ := Int.eq_ofNat_of_zero_le h1.1
   have hn : n ≤ 8 := by omega
   have hset := setOk_set hn hx
   have hlen := hset.1.len
   have hx8 : SetN 8 l1 := hset.1.wide hn
   have ht := impl_SlideSpace_ev (n : Int) l0_1 (l1.length : Int) hn0
   unfold tokR at ht
   rw [if_pos (by rw [hg, Bool.true_and, decide_eq_true (show (0 : Int) ≤ (l1.length : Int) by omega), decide_eq_true (show (l1.length : Int) ≤ 8 by omega)]; rfl), Int.toNat_natCast] at ht
   have hm := tok_mod hn l0_1 (l1.length : Int) (l1.length : Int) 0
   have hgo := allSteps_good (stepS l0_1 0) (freeS n l0_1 (l1.length : Int) (l1.length : Int))
   have hmem : l1 ∈ freeS n l0_1 (l1.length : Int) (l1.length : Int) := (freeS_mem hn _ _ _ _).2 ⟨hset.1, ⟨Int.le_refl _, Int.le_refl _⟩, hset.2⟩
   have h8 : ∀ s ∈ freeS n l0_1 (l1.length : Int) (l1.length : Int), SetN 8 s := fun s hs => freeS_8 hn hs
   have hlex := freeS_lex hn l0_1 (l1.length : Int) (l1.length : Int)
   have hsets := l3Sets_ev n hn l0_1 hn0 hg (l1.length : Int) (l1.length : Int)
   have hspace := l3tok_ev n hn l0_1 hn0 (l1.length : Int) (l1.length : Int) 0
   generalize allSteps (stepS l0_1 0) 0 (freeS n l0_1 (l1.length : Int) (l1.length : Int)) = E at *
   generalize freeS n l0_1 (l1.length : Int) (l1.length : Int) = L at *
   obtain ⟨q, hq, _, i1, i2⟩ := place_in L E hm hlex l1 hmem
   have hzl := roadsL_len L E
   have hml := hm.1
   obtain ⟨D, e1, e2, e3, _⟩ := spread_both (roadsL_ok L E hm hgo) (by omega) (roadsL_row L E hm hgo) (q : Int) (by omega) (by omega)
   have hcode := hx8.code (by decide)
   obtain ⟨R, r0, r1, r2⟩ := locked_loop L E D hml (by omega) h8 _ 0 l1 (bagI 0 l1) rfl (Nat.zero_le _) hx8 (by have := hcode.1; omega) hcode.2
   have hRl := len8 r0
   refine ⟨R, true, ?_, ?_, by omega⟩
   · unfold spec_LockedTokens.f
     refine Ev.bind hs ?_
     refine Ev.pos c ?_
     refine Ev.bind hsets ?_
     refine Ev.bind hspace ?_
     refine Ev.bind i1 ?_
     refine Ev.bind (a := D) ?_ ?_
     · unfold spec_l2Dist.f
       refine Ev.bind (lists_ev L E hm hgo) ?_
       exact Ev.bind e2 (Ev.now _)
     · refine Ev.bindo (own_at l1 hl1) ?_
       simpa only [Int.natCast_zero] using r1
   · unfold impl_LockedTokens.f
     refine Ev.bind hi ?_
     refine Ev.pos c ?_
     refine Ev.bind (a := R) ?_ (Ev.now _)
     unfold impl_Graph_locked.f
     refine Ev.bind ht ?_
     refine Ev.bindo i2 ?_
     refine Ev.bind (bagOf_ev l1 hl1 fun z hz => hx8.2 z hz) ?_
     refine Ev.bind (roads_ev L E hm hgo) ?_
     refine Ev.bind e1 ?_
     simpa only [Int.natCast_zero] using r2
 · refine ⟨[], false, ?_, ?_, Nat.zero_le _⟩
   · unfold spec_LockedTokens.f
     exact Ev.bind hs (Ev.neg c (Ev.now _))
   · unfold impl_LockedTokens.f
     exact Ev.bind hi (Ev.neg c (Ev.now _))
set_option maxHeartbeats 1000000 in
theorem Law_FnExactLockedTokens (a0_0 : Int) (A0_1 : Option Addr) (ca0_1 : Nat) (l0_1 : List (S69)) (A1 : Option Addr) (ca1 : Nat) (l1 : List Int) (w : World) (hr0_1 : Kd.C k69 w A0_1 l0_1.length l0_1) (hc0_1 : l0_1.length ≤ ca0_1) (hr1 : Kd.C (Kd.int .i64) w A1 l1.length l1) (hc1 : l1.length ≤ ca1) (w0_0 : (Lit.int .i64 a0_0).wf = true) (w0_1 : FitP l0_1) (w1 : FitL l1) :
   Calls Tryz.prog 6 #[.agg #[.int .i64 a0_0, .slice A0_1 l0_1.length ca0_1], .slice A1 l1.length ca1] w fun e w' => e = .returned (.bool true) ∧ Below w.heap.size w w' := by
 by_cases c0 : 1048576 < (l1.length : Int)
 · exact laws_FnExactLockedTokens.exit0 a0_0 A0_1 ca0_1 l0_1 A1 ca1 l1 w hr0_1 hc0_1 hr1 hc1 c0
 have hl1 : l1.length ≤ 1048576 := by omega
 obtain ⟨t0, h0, m1⟩ := sz_graph a0_0 l0_1 w0_1.1
 by_cases c1 : t0 < 0
 · exact laws_FnExactLockedTokens.exit1 a0_0 A0_1 ca0_1 l0_1 A1 ca1 l1 t0 w hr0_1 hc0_1 hr1 hc1 c0 c1 h0
 have hn0 := m1.resolve_left c1
 obtain ⟨q0, q1, es, ei, hb1⟩ := Both_FnExactLockedTokens a0_0 l0_1 l1 w0_0 w0_1 w1 hn0 hl1
 obtain ⟨k1, h1⟩ := Ev.rounds (toGraph_ev a0_0 l0_1 hn0)
 obtain ⟨k2, h2⟩ := Ev.rounds (toIntS_ev l1 hl1)
 obtain ⟨k3, h3⟩ := Ev.rounds (es)
 obtain ⟨k4, h4⟩ := Ev.rounds (ei)
 obtain ⟨k5, h5⟩ := Ev.rounds (eqIntS_ev q0 hb1)
 obtain ⟨k6, h6⟩ := Ev.rounds (eqGraph_ev a0_0 l0_1 hn0)
 obtain ⟨k7, h7⟩ := Ev.rounds (eqIntS_ev l1 hl1)
 obtain ⟨kk0, mk0_0, h8, nkk0, pkk0⟩ := markGraph_ex a0_0 l0_1 hn0
 obtain ⟨kk1, mk1_0, k9, h9, nkk1, pkk1⟩ := markInt_ex l1 kk0 hl1 ⟨by omega, pkk0⟩
 obtain ⟨kk2, mk2_0, k10, h10, k11, h11, nkk2⟩ := markInt_held q0 hb1
 exact laws_FnExactLockedTokens.walk a0_0 A0_1 ca0_1 l0_1 A1 ca1 l1 k1 k2 k3 k4 k5 k6 k7 k9 k10 k11 t0 q0 q1 kk0 mk0_0 kk1 mk1_0 kk2 mk2_0 w hr0_1 hc0_1 hr1 hc1 c0 c1 h0 h1 h2 h3 h4 h5 h6 h7 h8 h9 h10 h11 nkk1 nkk2
end Go.Proofs.YtadjbmcfgjmhkaaGreat.P
