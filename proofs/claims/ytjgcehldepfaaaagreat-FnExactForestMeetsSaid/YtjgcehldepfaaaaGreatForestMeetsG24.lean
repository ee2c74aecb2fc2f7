/- impl's ForestMeets: what MeetDef says; for every world. -/
import Derived.Test.YtjgcehldepfaaaaGreatForestMeetsG23
namespace Go.Proofs.YtjgcehldepfaaaaGreat.P
open Go.RowKit YtjgcehldepfaaaaGreatW.PrintWords Go.Proofs.YtjgcehldepfaaaaGreatW.PrintLast Go.Proofs.YtjgcehldepfaaaaGreatW.PrintMore
set_option maxRecDepth 100000
set_option maxHeartbeats 8000000
set_option linter.unusedVariables false
set_option linter.unusedSimpArgs false
set_option maxHeartbeats 1000000 in
theorem qS (g10 g14 : Nat) (o x y : Int) (hx : 0 ≤ x) (hy : 0 ≤ y) (W : World) (h10 : W.cell? ⟨g10, 0, none⟩ = some (.int .u64 o)) (h14 : W.cell? ⟨g14, 0, none⟩ = some (.int .i64 x)) :
  Calls Tryz.prog 37 (#[.int .i64 y] ++ #[.pointer (some ⟨g10, 0, none⟩), .pointer (some ⟨g14, 0, none⟩)]) W fun e w' => e = .returned (.bool (aA o x || aA o y)) ∧ Below W.heap.size W w' := by
 have HX := zM (show bU o x = some (aA o x) by unfold bU; rw [if_pos hx]; rfl)
 have HY := zM (show bU o y = some (aA o y) by unfold bU; rw [if_pos hy]; rfl)
 clear hx hy
 show Calls Tryz.prog 37 #[.int .i64 y, .pointer (some ⟨g10, 0, none⟩), .pointer (some ⟨g14, 0, none⟩)] W _
 generalize aA o x = bx at HX
 generalize aA o y = by_ at HY
 go_enter Tryz.func37, Tryz.ntmps37
 go_wp2_with fail
 go_at_call 38
 refine (jr _ _ bx _ HX.out).mono ?_
 rintro e w' ⟨rfl, ⟨n1, rfl⟩⟩
 cases bx with
 | true =>
  go_wp2
  go_ret
  exact ⟨by first | rfl | (simp; done), by repeat (first | exact Below.refl _ _ | apply bC | apply cE | apply aD)⟩
 | false =>
  go_wp2_with fail
  go_at_call 38
  refine (jr _ _ by_ _ HY.out).mono ?_
  rintro e w' ⟨rfl, ⟨n2, rfl⟩⟩
  go_wp2
  go_ret
  exact ⟨by first | rfl | (simp; done), by repeat (first | exact Below.refl _ _ | apply bC | apply cE | apply aD)⟩
set_option maxHeartbeats 4000000 in
theorem qN (k : Nat) (a0_0 : Int) (A0_1 : Option Addr) (c0_1 : Nat) (l0_1 : List (S63)) (A1 : Option Addr) (c1 : Nat) (l1 : List Int) (A2 : Option Addr) (c2 : Nat) (l2 : List Int) (w : World) (hr0_1 : Kd.C k63 w A0_1 l0_1.length l0_1) (hc0_1 : l0_1.length ≤ c0_1) (hr1 : Kd.C (Kd.int .i64) w A1 l1.length l1) (hc1 : l1.length ≤ c1) (hr2 : Kd.C (Kd.int .i64) w A2 l2.length l2) (hc2 : l2.length ≤ c2) (h1 : dX k a0_0 l0_1 l1 l2 = some false) : Calls Tryz.prog 16 #[.agg #[.int .i64 a0_0, .slice A0_1 l0_1.length c0_1], .slice A1 l1.length c1, .slice A2 l2.length c2] w fun e w' => e = .returned (.tuple #[.bool false, .bool false]) ∧ Below w.heap.size w w' := by
 have hu := Tryz.underlying29
 have HR0 := zM hr0_1
 have HC0 := zM hc0_1
 have HR1 := zM hr1
 have HC1 := zM hc1
 have HR2 := zM hr2
 have HC2 := zM hc2
 have HB := zM (Below.refl w.heap.size w)
 clear hr0_1 hc0_1 hr1 hc1 hr2 hc2
 have H1 := zM h1
 clear h1
 go_enter Tryz.func16, Tryz.ntmps16
 go_wp2_with (first
  | ((with_reducible refine au (N := 3) rfl ?_); refine ze 3 #[.int .i64 a0_0, .slice A0_1 l0_1.length c0_1] 29 ?_; intro g3 hg w1 hbox hb; have HG3 := zM (show w.heap.size ≤ g3 by rw [hg]; exact am HB.out); replace HB := zM (ag HB.out hb); have BK3 := zM hbox; clear hg hb hbox; have hc3_0 := zy BK3 0; have hf3_0 := ae BK3.out 0; have hc3_1 := zy BK3 1; have hf3_1 := ae BK3.out 1)
  | (go_at_call 22; refine (iv k _ _ _ l0_1 _ _ l1 _ _ l2 false _ (zC (Kd.C_below HR0.out HB.out)) HC0.out (zC (Kd.C_below HR1.out HB.out)) HC1.out (zC (Kd.C_below HR2.out HB.out)) HC2.out H1.out).mono ?_; rintro e w6 ⟨rfl, hb⟩; replace BK3 := aG BK3 hb; replace HB := zM (ag HB.out hb); clear hb; replace hc3_0 := zy BK3 0; replace hf3_0 := ae BK3.out 0; replace hc3_1 := zy BK3 1; replace hf3_1 := ae BK3.out 1))
 go_ret2
 exact ⟨rfl, HB.out⟩
set_option maxHeartbeats 4000000 in
theorem qM (k : Nat) (a0_0 : Int) (A0_1 : Option Addr) (c0_1 : Nat) (l0_1 : List (S63)) (A1 : Option Addr) (c1 : Nat) (l1 : List Int) (A2 : Option Addr) (c2 : Nat) (l2 : List Int) (w : World) (hr0_1 : Kd.C k63 w A0_1 l0_1.length l0_1) (hc0_1 : l0_1.length ≤ c0_1) (hr1 : Kd.C (Kd.int .i64) w A1 l1.length l1) (hc1 : l1.length ≤ c1) (hr2 : Kd.C (Kd.int .i64) w A2 l2.length l2) (hc2 : l2.length ≤ c2) (h1 : dX k a0_0 l0_1 l1 l2 = some true) (h2 : eJ k a0_0 l0_1 = some false) : Calls Tryz.prog 16 #[.agg #[.int .i64 a0_0, .slice A0_1 l0_1.length c0_1], .slice A1 l1.length c1, .slice A2 l2.length c2] w fun e w' => e = .returned (.tuple #[.bool false, .bool false]) ∧ Below w.heap.size w w' := by
 have hu := Tryz.underlying29
 have HR0 := zM hr0_1
 have HC0 := zM hc0_1
 have HR1 := zM hr1
 have HC1 := zM hc1
 have HR2 := zM hr2
 have HC2 := zM hc2
 have HB := zM (Below.refl w.heap.size w)
 clear hr0_1 hc0_1 hr1 hc1 hr2 hc2
 have H1 := zM h1
 have H2 := zM h2
 clear h1 h2
 go_enter Tryz.func16, Tryz.ntmps16
 go_wp2_with (first
  | ((with_reducible refine au (N := 3) rfl ?_); refine ze 3 #[.int .i64 a0_0, .slice A0_1 l0_1.length c0_1] 29 ?_; intro g3 hg w1 hbox hb; have HG3 := zM (show w.heap.size ≤ g3 by rw [hg]; exact am HB.out); replace HB := zM (ag HB.out hb); have BK3 := zM hbox; clear hg hb hbox; have hc3_0 := zy BK3 0; have hf3_0 := ae BK3.out 0; have hc3_1 := zy BK3 1; have hf3_1 := ae BK3.out 1)
  | (go_at_call 22; refine (iv k _ _ _ l0_1 _ _ l1 _ _ l2 true _ (zC (Kd.C_below HR0.out HB.out)) HC0.out (zC (Kd.C_below HR1.out HB.out)) HC1.out (zC (Kd.C_below HR2.out HB.out)) HC2.out H1.out).mono ?_; rintro e w6 ⟨rfl, hb⟩; replace BK3 := aG BK3 hb; replace HB := zM (ag HB.out hb); clear hb; replace hc3_0 := zy BK3 0; replace hf3_0 := ae BK3.out 0; replace hc3_1 := zy BK3 1; replace hf3_1 := ae BK3.out 1)
  | (go_at_call 23; refine (jv k _ _ _ l0_1 false _ (zC (Kd.C_below HR0.out HB.out)) HC0.out H2.out).mono ?_; rintro e w6 ⟨rfl, hb⟩; replace BK3 := aG BK3 hb; replace HB := zM (ag HB.out hb); clear hb; replace hc3_0 := zy BK3 0; replace hf3_0 := ae BK3.out 0; replace hc3_1 := zy BK3 1; replace hf3_1 := ae BK3.out 1))
 go_ret2
 exact ⟨rfl, HB.out⟩
set_option maxHeartbeats 4000000 in
theorem qL (k : Nat) (a0_0 : Int) (A0_1 : Option Addr) (c0_1 : Nat) (l0_1 : List (S63)) (A1 : Option Addr) (c1 : Nat) (l1 : List Int) (A2 : Option Addr) (c2 : Nat) (l2 : List Int) (w : World) (hr0_1 : Kd.C k63 w A0_1 l0_1.length l0_1) (hc0_1 : l0_1.length ≤ c0_1) (hr1 : Kd.C (Kd.int .i64) w A1 l1.length l1) (hc1 : l1.length ≤ c1) (hr2 : Kd.C (Kd.int .i64) w A2 l2.length l2) (hc2 : l2.length ≤ c2) (h1 : dX k a0_0 l0_1 l1 l2 = some true) (h2 : eJ k a0_0 l0_1 = some true) (hl : ¬ l1.length = l2.length) : Calls Tryz.prog 16 #[.agg #[.int .i64 a0_0, .slice A0_1 l0_1.length c0_1], .slice A1 l1.length c1, .slice A2 l2.length c2] w fun e w' => e = .returned (.tuple #[.bool false, .bool false]) ∧ Below w.heap.size w w' := by
 have hu := Tryz.underlying29
 have HR0 := zM hr0_1
 have HC0 := zM hc0_1
 have HR1 := zM hr1
 have HC1 := zM hc1
 have HR2 := zM hr2
 have HC2 := zM hc2
 have HB := zM (Below.refl w.heap.size w)
 clear hr0_1 hc0_1 hr1 hc1 hr2 hc2
 have H1 := zM h1
 have H2 := zM h2
 have e1 : ((l1.length : Int) == (l2.length : Int)) = false := beq_eq_false_iff_ne.mpr (by omega)
 have e2 : decide ((l1.length : Int) = (l2.length : Int)) = false := ao (by omega)
 have e3 : (l1.length == l2.length) = false := beq_eq_false_iff_ne.mpr hl
 have e4 : decide (l1.length = l2.length) = false := ao hl
 clear h1 h2
 go_enter Tryz.func16, Tryz.ntmps16
 go_wp2_with (first
  | ((with_reducible refine au (N := 3) rfl ?_); refine ze 3 #[.int .i64 a0_0, .slice A0_1 l0_1.length c0_1] 29 ?_; intro g3 hg w1 hbox hb; have HG3 := zM (show w.heap.size ≤ g3 by rw [hg]; exact am HB.out); replace HB := zM (ag HB.out hb); have BK3 := zM hbox; clear hg hb hbox; have hc3_0 := zy BK3 0; have hf3_0 := ae BK3.out 0; have hc3_1 := zy BK3 1; have hf3_1 := ae BK3.out 1)
  | (go_at_call 22; refine (iv k _ _ _ l0_1 _ _ l1 _ _ l2 true _ (zC (Kd.C_below HR0.out HB.out)) HC0.out (zC (Kd.C_below HR1.out HB.out)) HC1.out (zC (Kd.C_below HR2.out HB.out)) HC2.out H1.out).mono ?_; rintro e w6 ⟨rfl, hb⟩; replace BK3 := aG BK3 hb; replace HB := zM (ag HB.out hb); clear hb; replace hc3_0 := zy BK3 0; replace hf3_0 := ae BK3.out 0; replace hc3_1 := zy BK3 1; replace hf3_1 := ae BK3.out 1)
  | (go_at_call 23; refine (jv k _ _ _ l0_1 true _ (zC (Kd.C_below HR0.out HB.out)) HC0.out H2.out).mono ?_; rintro e w6 ⟨rfl, hb⟩; replace BK3 := aG BK3 hb; replace HB := zM (ag HB.out hb); clear hb; replace hc3_0 := zy BK3 0; replace hf3_0 := ae BK3.out 0; replace hc3_1 := zy BK3 1; replace hf3_1 := ae BK3.out 1))
 go_ret2
 exact ⟨rfl, HB.out⟩
theorem og {W w : World} {g : Nat} {P : Program} {f : FuncId} {args : Array Value} {Q : Ending → World → Prop} {t : TypeId} {x a : Value} (hb : Aside0 (W.heap[g]? = some (.cells #[x] t (0, 0)))) (hB : Aside0 (Below w.heap.size w W)) (hg : w.heap.size ≤ g)
  (h : ∀ W', Aside0 (W'.heap[g]? = some (.cells #[a] t (0, 0))) → Kept W W' (fun k => k = g) → Aside0 (Below w.heap.size w W') → Calls P f args W' Q) : Calls P f args (W.setCell ⟨g, 0, none⟩ a) Q :=
 h _ ⟨aK (cs := #[x]) hb.out 0 a rfl⟩ (Kept.setCell (Kept.refl W (fun k => k = g)) (p := ⟨g, 0, none⟩) (.inl rfl) a) ⟨bJ hB.out hg⟩
theorem mI (o : Int) : ∀ (z : List (List Int)) (x m : Nat) (hm : m < z.length), aN o x (z.take (m + 1)) = aN o x (z.take m) ++ [fL o ((x + m : Nat) : Int) z[m]]
 | r :: t, x, 0, _ => by simp [aN]
 | r :: t, x, m + 1, hm => by
  have := mI o t (x + 1) m (by simpa using hm)
  rw [List.take_succ_cons, aN, this, List.take_succ_cons, aN, List.cons_append, List.getElem_cons_succ, show x + 1 + m = x + (m + 1) by omega]
theorem fK (o : Int) : ∀ (z : List (List Int)) (x : Nat), (aN o x z).length = z.length
 | [], _ => rfl
 | r :: t, x => by rw [aN, List.length_cons, fK o t (x + 1), List.length_cons]
set_option maxHeartbeats 4000000 in
theorem qK (k : Nat) (a0_0 : Int) (A0_1 : Option Addr) (c0_1 : Nat) (l0_1 : List (S63)) (A1 : Option Addr) (c1 : Nat) (l1 : List Int) (A2 : Option Addr) (c2 : Nat) (l2 : List Int) (w : World) (hr0_1 : Kd.C k63 w A0_1 l0_1.length l0_1) (hc0_1 : l0_1.length ≤ c0_1) (hr1 : Kd.C (Kd.int .i64) w A1 l1.length l1) (hc1 : l1.length ≤ c1) (hr2 : Kd.C (Kd.int .i64) w A2 l2.length l2) (hc2 : l2.length ≤ c2) (L1 L2 : List Int) (b1 b2 : Int) (h1 : dX k a0_0 l0_1 l1 l2 = some true) (h2 : eJ k a0_0 l0_1 = some true) (hl : l1.length = l2.length) (h3 : d8 k a0_0 l0_1 l1 = some L1) (h4 : bV k L1 = some b1) (h5 : d8 k a0_0 l0_1 l2 = some L2) (h6 : bV k L2 = some b2) (hne : ¬ b1 = b2) : Calls Tryz.prog 16 #[.agg #[.int .i64 a0_0, .slice A0_1 l0_1.length c0_1], .slice A1 l1.length c1, .slice A2 l2.length c2] w fun e w' => e = .returned (.tuple #[.bool false, .bool true]) ∧ Below w.heap.size w w' := by
 have hu := Tryz.underlying29
 have HR0 := zM hr0_1
 have HC0 := zM hc0_1
 have HR1 := zM hr1
 have HC1 := zM hc1
 have HR2 := zM hr2
 have HC2 := zM hc2
 have HB := zM (Below.refl w.heap.size w)
 clear hr0_1 hc0_1 hr1 hc1 hr2 hc2
 have H1 := zM h1
 have H2 := zM h2
 have H3 := zM h3
 have H4 := zM h4
 have H5 := zM h5
 have H6 := zM h6
 have e1 : ((l1.length : Int) == (l2.length : Int)) = true := beq_iff_eq.mpr (by omega)
 have e2 : decide ((l1.length : Int) = (l2.length : Int)) = true := af (by omega)
 have e3 : (l1.length == l2.length) = true := beq_iff_eq.mpr hl
 have e4 : decide (l1.length = l2.length) = true := af hl
 clear h1 h2 h3 h4 h5 h6 hl
 have f1 : (b1 == b2) = false := beq_eq_false_iff_ne.mpr hne
 have f2 : decide (b1 = b2) = false := ao hne
 go_enter Tryz.func16, Tryz.ntmps16
 go_upto_region 3 with (first
  | ((with_reducible refine au (N := 3) rfl ?_); refine ze 3 #[.int .i64 a0_0, .slice A0_1 l0_1.length c0_1] 29 ?_; intro g3 hg w1 hbox hb; have HG3 := zM (show w.heap.size ≤ g3 by rw [hg]; exact am HB.out); replace HB := zM (ag HB.out hb); have BK3 := zM hbox; clear hg hb hbox; have hc3_0 := zy BK3 0; have hf3_0 := ae BK3.out 0; have hc3_1 := zy BK3 1; have hf3_1 := ae BK3.out 1)
  | (go_at_call 22; refine (iv k _ _ _ l0_1 _ _ l1 _ _ l2 true _ (zC (Kd.C_below HR0.out HB.out)) HC0.out (zC (Kd.C_below HR1.out HB.out)) HC1.out (zC (Kd.C_below HR2.out HB.out)) HC2.out H1.out).mono ?_; rintro e w6 ⟨rfl, hb⟩; replace BK3 := aG BK3 hb; replace HB := zM (ag HB.out hb); clear hb; replace hc3_0 := zy BK3 0; replace hf3_0 := ae BK3.out 0; replace hc3_1 := zy BK3 1; replace hf3_1 := ae BK3.out 1)
  | (go_at_call 23; refine (jv k _ _ _ l0_1 true _ (zC (Kd.C_below HR0.out HB.out)) HC0.out H2.out).mono ?_; rintro e w6 ⟨rfl, hb⟩; replace BK3 := aG BK3 hb; replace HB := zM (ag HB.out hb); clear hb; replace hc3_0 := zy BK3 0; replace hf3_0 := ae BK3.out 0; replace hc3_1 := zy BK3 1; replace hf3_1 := ae BK3.out 1))
 (try simp only [Act.put, List.setIfInBounds_toArray, List.set_cons_zero, List.set_cons_succ])
 replace BK3 := zM (aq BK3.out)
 replace HB := zM (aD HB.out)
 clear hc3_0 hf3_0 hc3_1 hf3_1
 refine zs (n := 10) (fun w' => w'.cell? ⟨g3, 0, none⟩ = some (.int .i64 a0_0) ∧ w'.cell? ⟨g3, 1, none⟩ = some (.slice A0_1 l0_1.length c0_1)) ⟨(ah BK3.out 0).trans rfl, (ah BK3.out 1).trans rfl⟩ (fun hHeld => ?_)
 generalize w6.drew = wa at BK3 HB hHeld ⊢
 refine zl 0 35 hHeld ?_ (hy := by rintro w' ⟨s0, s1⟩; go_simp; with_reducible rfl)
 refine zq 1 36 ?_
 refine zl 4 39 hHeld ?_ (hy := by rintro w' ⟨s0, s1⟩; go_simp; with_reducible rfl)
 refine zq 5 40 ?_
 refine zh 2 37 Tryz.func24 #[.agg #[.int .i64 a0_0, .slice A0_1 l0_1.length c0_1], .slice A1 l1.length c1] (fun K hK => ?_)
 refine (ju k _ _ _ l0_1 _ _ l1 L1 _ (zC (Kd.C_below HR0.out HB.out)) HC0.out (zC (Kd.C_below HR1.out HB.out)) HC1.out H3.out).mono ?_
 rintro e wb1 ⟨vv1, rfl, ho, hb⟩
 replace BK3 := aG BK3 hb
 replace HB := zM (ag HB.out hb)
 have HO1 := zM ho
 clear hb ho
 obtain ⟨Ao1, co1, eo1⟩ := Kd.R_slice HO1.out
 subst eo1
 refine ⟨_, rfl, ?_⟩
 refine hK.out _ _ ⟨(ah BK3.out 0).trans rfl, (ah BK3.out 1).trans rfl⟩ (fun hHeld => ?_)
 clear hK K
 refine zn 37 ?_
 refine zh 3 38 Tryz.func32 #[.slice Ao1 L1.length co1] (fun K hK => ?_)
 refine (cI k _ _ L1 b1 _ (zC (Kd.R_reads' HO1.out).2.2) (Kd.R_reads' HO1.out).2.1 H4.out).mono ?_
 rintro e wc1 ⟨rfl, hd⟩
 have hb := hd.below
 replace BK3 := aG BK3 hb
 replace HB := zM (ag HB.out hb)
 clear hb hd HO1
 refine ⟨_, rfl, ?_⟩
 refine hK.out _ _ ⟨(ah BK3.out 0).trans rfl, (ah BK3.out 1).trans rfl⟩ (fun hHeld => ?_)
 clear hK K
 refine zn 38 ?_
 refine zh 6 41 Tryz.func24 #[.agg #[.int .i64 a0_0, .slice A0_1 l0_1.length c0_1], .slice A2 l2.length c2] (fun K hK => ?_)
 refine (ju k _ _ _ l0_1 _ _ l2 L2 _ (zC (Kd.C_below HR0.out HB.out)) HC0.out (zC (Kd.C_below HR2.out HB.out)) HC2.out H5.out).mono ?_
 rintro e wb2 ⟨vv2, rfl, ho, hb⟩
 replace BK3 := aG BK3 hb
 replace HB := zM (ag HB.out hb)
 have HO2 := zM ho
 clear hb ho
 obtain ⟨Ao2, co2, eo2⟩ := Kd.R_slice HO2.out
 subst eo2
 refine ⟨_, rfl, ?_⟩
 refine hK.out _ _ ⟨(ah BK3.out 0).trans rfl, (ah BK3.out 1).trans rfl⟩ (fun hHeld => ?_)
 clear hK K
 refine zn 41 ?_
 refine zh 7 42 Tryz.func32 #[.slice Ao2 L2.length co2] (fun K hK => ?_)
 refine (cI k _ _ L2 b2 _ (zC (Kd.R_reads' HO2.out).2.2) (Kd.R_reads' HO2.out).2.1 H6.out).mono ?_
 rintro e wc2 ⟨rfl, hd⟩
 have hb := hd.below
 replace BK3 := aG BK3 hb
 replace HB := zM (ag HB.out hb)
 clear hb hd HO2
 refine ⟨_, rfl, ?_⟩
 refine hK.out _ _ ⟨(ah BK3.out 0).trans rfl, (ah BK3.out 1).trans rfl⟩ (fun hHeld => ?_)
 clear hK K
 refine zn 42 ?_
 refine zq 8 8 ?_
 refine zq 9 9 ?_
 refine zx ?_
 have hc3_0 := zy BK3 0
 have hf3_0 := ae BK3.out 0
 have hc3_1 := zy BK3 1
 have hf3_1 := ae BK3.out 1
 go_wp2
 go_ret2
 exact ⟨rfl, HB.out⟩
set_option maxHeartbeats 4000000 in
theorem qO (k : Nat) (a0_0 : Int) (A0_1 : Option Addr) (c0_1 : Nat) (l0_1 : List (S63)) (A1 : Option Addr) (c1 : Nat) (l1 : List Int) (A2 : Option Addr) (c2 : Nat) (l2 : List Int) (w : World) (hr0_1 : Kd.C k63 w A0_1 l0_1.length l0_1) (hc0_1 : l0_1.length ≤ c0_1) (hr1 : Kd.C (Kd.int .i64) w A1 l1.length l1) (hc1 : l1.length ≤ c1) (hr2 : Kd.C (Kd.int .i64) w A2 l2.length l2) (hc2 : l2.length ≤ c2) (L1 L2 : List Int) (b1 b2 : Int) (h1 : dX k a0_0 l0_1 l1 l2 = some true) (h2 : eJ k a0_0 l0_1 = some true) (hl : l1.length = l2.length) (h3 : d8 k a0_0 l0_1 l1 = some L1) (h4 : bV k L1 = some b1) (h5 : d8 k a0_0 l0_1 l2 = some L2) (h6 : bV k L2 = some b2) (ls : List Int) (out : Int) (z : List (List Int)) (ps : List (List Int)) (r1 r2 : Bool) (hb2 : b1 = b2) (h7 : eH k b1 = some ls) (h8 : fi k a0_0 l0_1 b1 ls = some out) (h9 : gO k a0_0 l0_1 = some z) (h10 : fH z = true) (h11 : fN k (aN out 0 z) (-1) = some ps) (h12 : fh k out l1 l2 ps = some (r1, r2)) : Calls Tryz.prog 16 #[.agg #[.int .i64 a0_0, .slice A0_1 l0_1.length c0_1], .slice A1 l1.length c1, .slice A2 l2.length c2] w fun e w' => e = .returned (.tuple #[.bool r1, .bool r2]) ∧ Below w.heap.size w w' := by
 subst hb2
 have hu := Tryz.underlying29
 have HR0 := zM hr0_1
 have HC0 := zM hc0_1
 have HR1 := zM hr1
 have HC1 := zM hc1
 have HR2 := zM hr2
 have HC2 := zM hc2
 have HB := zM (Below.refl w.heap.size w)
 clear hr0_1 hc0_1 hr1 hc1 hr2 hc2
 have H1 := zM h1
 have H2 := zM h2
 have H3 := zM h3
 have H4 := zM h4
 have H5 := zM h5
 have H6 := zM h6
 have e1 : ((l1.length : Int) == (l2.length : Int)) = true := beq_iff_eq.mpr (by omega)
 have e2 : decide ((l1.length : Int) = (l2.length : Int)) = true := af (by omega)
 have e3 : (l1.length == l2.length) = true := beq_iff_eq.mpr hl
 have e4 : decide (l1.length = l2.length) = true := af hl
 clear h1 h2 h3 h4 h5 h6 hl
 have H7 := zM h7
 have H8 := zM h8
 have H9 := zM h9
 have H10 := zM h10
 have H11 := zM h11
 have H12 := zM h12
 clear h7 h8 h9 h10 h11 h12
 have f1 : (b1 == b1) = true := beq_iff_eq.mpr rfl
 have f2 : decide (b1 = b1) = true := af rfl
 go_enter Tryz.func16, Tryz.ntmps16
 go_upto_region 3 with (first
  | ((with_reducible refine au (N := 3) rfl ?_); refine ze 3 #[.int .i64 a0_0, .slice A0_1 l0_1.length c0_1] 29 ?_; intro g3 hg w1 hbox hb; have HG3 := zM (show w.heap.size ≤ g3 by rw [hg]; exact am HB.out); replace HB := zM (ag HB.out hb); have BK3 := zM hbox; clear hg hb hbox; have hc3_0 := zy BK3 0; have hf3_0 := ae BK3.out 0; have hc3_1 := zy BK3 1; have hf3_1 := ae BK3.out 1)
  | (go_at_call 22; refine (iv k _ _ _ l0_1 _ _ l1 _ _ l2 true _ (zC (Kd.C_below HR0.out HB.out)) HC0.out (zC (Kd.C_below HR1.out HB.out)) HC1.out (zC (Kd.C_below HR2.out HB.out)) HC2.out H1.out).mono ?_; rintro e w6 ⟨rfl, hb⟩; replace BK3 := aG BK3 hb; replace HB := zM (ag HB.out hb); clear hb; replace hc3_0 := zy BK3 0; replace hf3_0 := ae BK3.out 0; replace hc3_1 := zy BK3 1; replace hf3_1 := ae BK3.out 1)
  | (go_at_call 23; refine (jv k _ _ _ l0_1 true _ (zC (Kd.C_below HR0.out HB.out)) HC0.out H2.out).mono ?_; rintro e w6 ⟨rfl, hb⟩; replace BK3 := aG BK3 hb; replace HB := zM (ag HB.out hb); clear hb; replace hc3_0 := zy BK3 0; replace hf3_0 := ae BK3.out 0; replace hc3_1 := zy BK3 1; replace hf3_1 := ae BK3.out 1))
 (try simp only [Act.put, List.setIfInBounds_toArray, List.set_cons_zero, List.set_cons_succ])
 replace BK3 := zM (aq BK3.out)
 replace HB := zM (aD HB.out)
 clear hc3_0 hf3_0 hc3_1 hf3_1
 refine zs (n := 10) (fun w' => w'.cell? ⟨g3, 0, none⟩ = some (.int .i64 a0_0) ∧ w'.cell? ⟨g3, 1, none⟩ = some (.slice A0_1 l0_1.length c0_1)) ⟨(ah BK3.out 0).trans rfl, (ah BK3.out 1).trans rfl⟩ (fun hHeld => ?_)
 generalize w6.drew = wa at BK3 HB hHeld ⊢
 refine zl 0 35 hHeld ?_ (hy := by rintro w' ⟨s0, s1⟩; go_simp; with_reducible rfl)
 refine zq 1 36 ?_
 refine zl 4 39 hHeld ?_ (hy := by rintro w' ⟨s0, s1⟩; go_simp; with_reducible rfl)
 refine zq 5 40 ?_
 refine zh 2 37 Tryz.func24 #[.agg #[.int .i64 a0_0, .slice A0_1 l0_1.length c0_1], .slice A1 l1.length c1] (fun K hK => ?_)
 refine (ju k _ _ _ l0_1 _ _ l1 L1 _ (zC (Kd.C_below HR0.out HB.out)) HC0.out (zC (Kd.C_below HR1.out HB.out)) HC1.out H3.out).mono ?_
 rintro e wb1 ⟨vv1, rfl, ho, hb⟩
 replace BK3 := aG BK3 hb
 replace HB := zM (ag HB.out hb)
 have HO1 := zM ho
 clear hb ho
 obtain ⟨Ao1, co1, eo1⟩ := Kd.R_slice HO1.out
 subst eo1
 refine ⟨_, rfl, ?_⟩
 refine hK.out _ _ ⟨(ah BK3.out 0).trans rfl, (ah BK3.out 1).trans rfl⟩ (fun hHeld => ?_)
 clear hK K
 refine zn 37 ?_
 refine zh 3 38 Tryz.func32 #[.slice Ao1 L1.length co1] (fun K hK => ?_)
 refine (cI k _ _ L1 b1 _ (zC (Kd.R_reads' HO1.out).2.2) (Kd.R_reads' HO1.out).2.1 H4.out).mono ?_
 rintro e wc1 ⟨rfl, hd⟩
 have hb := hd.below
 replace BK3 := aG BK3 hb
 replace HB := zM (ag HB.out hb)
 clear hb hd HO1
 refine ⟨_, rfl, ?_⟩
 refine hK.out _ _ ⟨(ah BK3.out 0).trans rfl, (ah BK3.out 1).trans rfl⟩ (fun hHeld => ?_)
 clear hK K
 refine zn 38 ?_
 refine zh 6 41 Tryz.func24 #[.agg #[.int .i64 a0_0, .slice A0_1 l0_1.length c0_1], .slice A2 l2.length c2] (fun K hK => ?_)
 refine (ju k _ _ _ l0_1 _ _ l2 L2 _ (zC (Kd.C_below HR0.out HB.out)) HC0.out (zC (Kd.C_below HR2.out HB.out)) HC2.out H5.out).mono ?_
 rintro e wb2 ⟨vv2, rfl, ho, hb⟩
 replace BK3 := aG BK3 hb
 replace HB := zM (ag HB.out hb)
 have HO2 := zM ho
 clear hb ho
 obtain ⟨Ao2, co2, eo2⟩ := Kd.R_slice HO2.out
 subst eo2
 refine ⟨_, rfl, ?_⟩
 refine hK.out _ _ ⟨(ah BK3.out 0).trans rfl, (ah BK3.out 1).trans rfl⟩ (fun hHeld => ?_)
 clear hK K
 refine zn 41 ?_
 refine zh 7 42 Tryz.func32 #[.slice Ao2 L2.length co2] (fun K hK => ?_)
 refine (cI k _ _ L2 b1 _ (zC (Kd.R_reads' HO2.out).2.2) (Kd.R_reads' HO2.out).2.1 H6.out).mono ?_
 rintro e wc2 ⟨rfl, hd⟩
 have hb := hd.below
 replace BK3 := aG BK3 hb
 replace HB := zM (ag HB.out hb)
 clear hb hd HO2
 refine ⟨_, rfl, ?_⟩
 refine hK.out _ _ ⟨(ah BK3.out 0).trans rfl, (ah BK3.out 1).trans rfl⟩ (fun hHeld => ?_)
 clear hK K
 refine zn 42 ?_
 refine zq 8 8 ?_
 refine zq 9 9 ?_
 refine zx ?_
 have hc3_0 := zy BK3 0
 have hf3_0 := ae BK3.out 0
 have hc3_1 := zy BK3 1
 have hf3_1 := ae BK3.out 1
 go_wp2_with (first
  | ((with_reducible refine au (N := 10) rfl ?_); refine ze 10 #[.int .u64 0] 52 ?_; intro g10 hg w7 hbox hb; have HG10 := zM (show w.heap.size ≤ g10 by rw [hg]; exact am HB.out); have NE := zM (show g3 ≠ g10 by rw [hg]; exact Nat.ne_of_lt (aH BK3.out)); replace BK3 := aG BK3 hb; replace HB := zM (ag HB.out hb); have BK10 := zM hbox; clear hg hb hbox; have hc10_0 := zy BK10 0; have hf10_0 := ae BK10.out 0; replace hc3_0 := zy BK3 0; replace hf3_0 := ae BK3.out 0; replace hc3_1 := zy BK3 1; replace hf3_1 := ae BK3.out 1)
  | (go_at_call 33; refine og BK10 HB HG10.out ?_; intro w8 BKn hk HBn; replace BK3 := g6 BK3 hk (fun e_ => NE.out e_); replace BK10 := BKn; replace HB := HBn; clear BKn HBn hk; refine (iy k b1 ls _ H7.out).mono ?_; rintro e w9 ⟨vl, rfl, ho, hb⟩; have HOL := zM (Kd.R_lower ho (am HB.out)); obtain ⟨Al, cl, el⟩ := Kd.R_slice HOL.out; subst el; replace BK3 := aG BK3 hb; replace BK10 := aG BK10 hb; replace HB := zM (ag HB.out hb); clear hb ho))
 clear hc3_0 hf3_0 hc3_1 hf3_1 hc10_0 hf10_0
 have HLL := zM (show ls.length ≤ 9223372036854775807 from (Kd.R_reads' HOL.out).2.2.2.1)
 go_loopg [50] (ls.length + 1) (fun kq v50 w' => ∃ (m : Nat) (o : Int), v50 = .int .i64 m ∧ Aside0 (m ≤ ls.length) ∧ Aside0 (kq = ls.length - m + 1) ∧ Aside0 (fi k a0_0 l0_1 o (ls.drop m) = some out) ∧ Aside0 (w'.heap[g10]? = some (.cells #[.int .u64 o] 52 (0, 0))) ∧ Aside0 (w'.heap[g3]? = some (.cells #[.int .i64 a0_0, .slice A0_1 l0_1.length c0_1] 29 (0, 0))) ∧ Aside0 ((Kd.int .i64).R 3 w' w.heap.size (fun _ => True) (.slice Al ls.length cl) ls) ∧ Aside0 (Below w.heap.size w w'))
 case atStart => exact ⟨0, b1, rfl, ⟨Nat.zero_le _⟩, ⟨by omega⟩, ⟨by rw [List.drop_zero]; exact H8.out⟩, BK10, BK3, HOL, HB⟩
 case round =>
  clear BK10 BK3 HOL HB H8
  obtain ⟨m, o, rfl, HM, HK1, HST, BK10, BK3, HOL, HB⟩ := hrel
  by_cases c1 : m < ls.length
  · have p1 : (0 : Int) ≤ (m : Int) := by omega
    have q1 : (m : Int) < (ls.length : Int) := by omega
    obtain ⟨ad, ea, hx0⟩ := Kd.at_int (Kd.R_reads' HOL.out).2.2 (m : Int) p1 q1
    subst ea
    rw [Int.toNat_natCast] at hx0
    have hg1 : rd ls (m : Int) = ls[m] := by simp [rd, List.getD_eq_getElem?_getD, List.getElem?_eq_getElem c1]
    rw [hg1] at hx0
    have hst := HST.out
    rw [List.drop_eq_getElem_cons c1, fi] at hst
    generalize ls[m] = x at hx0 hst
    obtain ⟨nb, hnb, hst⟩ := av hst
    obtain ⟨b, hbb, hst⟩ := av hst
    have HNB := zM hnb
    have HBB := zM hbb
    have HS2 := zM hst
    have HC1_ := zM c1
    have c1b : decide ((m : Int) < (ls.length : Int)) = true := af q1
    have c1c : decide (m < ls.length) = true := af c1
    have hw1 : (m : Int) + 1 ≤ 9223372036854775807 := by have := HLL.out; omega
    replace p1 := eq_true p1
    replace q1 := eq_true q1
    clear c1 hg1 hst hnb hbb HST
    go_upto_region 10 with (fail)
    (try simp only [Act.put, List.setIfInBounds_toArray, List.set_cons_zero, List.set_cons_succ])
    clear hx0
    replace BK3 := zM (aq BK3.out)
    replace BK10 := zM (aq BK10.out)
    replace HOL := zM (Kd.R_drew HOL.out)
    replace HB := zM (aD HB.out)
    refine g8 (n := 7) (S := fun w' => w'.cell? ⟨g10, 0, none⟩ = some (.int .u64 o) ∧ w'.cell? ⟨g3, 0, none⟩ = some (.int .i64 a0_0) ∧ w'.cell? ⟨g3, 1, none⟩ = some (.slice A0_1 l0_1.length c0_1)) (ds := [6]) #[false, false, false, false, false, false, false] (by kernel_rfl) rfl rfl ⟨(ah BK10.out 0).trans rfl, (ah BK3.out 0).trans rfl, (ah BK3.out 1).trans rfl⟩ (fun hHeld => ?_)
    generalize wr.drew = wd at BK3 BK10 HOL HB hHeld ⊢
    refine zl 0 54 hHeld ?_ (hy := by rintro w' ⟨s0, s1, s2⟩; go_simp; with_reducible rfl)
    refine zl 1 55 hHeld ?_ (hy := by rintro w' ⟨s0, s1, s2⟩; go_simp; with_reducible rfl)
    refine zq 2 56 ?_
    refine zh 3 57 Tryz.func34 #[.agg #[.int .i64 a0_0, .slice A0_1 l0_1.length c0_1], .int .i64 x] (fun K hK => ?_)
    refine (nf k _ _ _ l0_1 x nb _ (zC (Kd.C_below HR0.out HB.out)) HC0.out HNB.out).mono ?_
    rintro e we ⟨vn, rfl, ho, hb⟩
    replace BK3 := aG BK3 hb
    replace BK10 := aG BK10 hb
    replace HOL := bL HOL hb
    replace HB := zM (ag HB.out hb)
    have HON := zM ho
    clear hb ho
    obtain ⟨An, cn, en⟩ := Kd.R_slice HON.out
    subst en
    refine ⟨_, rfl, ?_⟩
    refine hK.out _ _ ⟨(ah BK10.out 0).trans rfl, (ah BK3.out 0).trans rfl, (ah BK3.out 1).trans rfl⟩ (fun hHeld => ?_)
    clear hK K
    refine zn 57 ?_
    refine zh 4 58 Tryz.func32 #[.slice An nb.length cn] (fun K hK => ?_)
    refine (cI k _ _ nb b _ (zC (Kd.R_reads' HON.out).2.2) (Kd.R_reads' HON.out).2.1 HBB.out).mono ?_
    rintro e wf ⟨rfl, hd⟩
    have hb := hd.below
    replace BK3 := aG BK3 hb
    replace BK10 := aG BK10 hb
    replace HOL := bL HOL hb
    replace HB := zM (ag HB.out hb)
    clear hb hd HON
    refine ⟨_, rfl, ?_⟩
    refine hK.out _ _ ⟨(ah BK10.out 0).trans rfl, (ah BK3.out 0).trans rfl, (ah BK3.out 1).trans rfl⟩ (fun hHeld => ?_)
    clear hK K
    refine zn 58 ?_
    refine zq 5 59 ?_
    refine jj (i := 6) (N := none) #[true, true, true, true, true, true, true] rfl rfl (by kernel_rfl) (by decide) (fun K hK => ?_)
    have hs_ : wf.cell? ⟨g10, 0, none⟩ = some (.int .u64 o) := (ah BK10.out 0).trans rfl
    have hfs_ := ae BK10.out 0
    refine i4 (w1 := ?_) (by rfl) rfl ?_ ?_
    rotate_left
    · go_simp
      rfl
    refine hK.out _ _ ?_
    clear hK K hs_ hfs_
    refine zx ?_
    have BK10n := zM (aK (cs := #[.int .u64 o]) BK10.out 0 (.int .u64 (Go.bits .or .u64 o b)) rfl)
    have BK3n := zM (bG BK3.out (p := ⟨g10, 0, none⟩) NE.out (.int .u64 (Go.bits .or .u64 o b)))
    have HOLn := zM (Kd.R_set HOL.out BK10.out (by decide) 0 (.int .u64 (Go.bits .or .u64 o b)))
    have HBn := zM (bJ (j := 0) (v := .int .u64 (Go.bits .or .u64 o b)) HB.out HG10.out)
    clear BK10 BK3 HOL HB
    go_wp2
    go_roundg (ls.length - m)
    case measure => have := HK1.out; have := HC1_.out; omega
    case rel => exact ⟨m + 1, Go.bits .or .u64 o b, by first | rfl | (simp; done) | go_num, ⟨by have := HC1_.out; omega⟩, ⟨by have := HC1_.out; omega⟩, HS2, BK10n, BK3n, HOLn, HBn⟩
  · have q1 : ¬ (m : Int) < (ls.length : Int) := by omega
    have c1b : decide ((m : Int) < (ls.length : Int)) = false := ao q1
    have c1c : decide (m < ls.length) = false := ao c1
    have hst := HST.out
    rw [List.drop_eq_nil_of_le (by omega), fi] at hst
    have eo := ap hst
    rw [eo] at BK10
    clear HST hst HOL c1 q1 HK1 HM eo
    have hc3_0 := zy BK3 0
    have hf3_0 := ae BK3.out 0
    have hc3_1 := zy BK3 1
    have hf3_1 := ae BK3.out 1
    go_wp2_with (go_at_call 35; refine (nc k _ _ _ l0_1 z _ (zC (Kd.C_below HR0.out HB.out)) HC0.out H9.out).mono ?_; rintro e w9 ⟨vz, rfl, ho, hb⟩; have HZ := zM (Kd.S_lower ho (am HB.out)); obtain ⟨Az, cz, ez⟩ := Kd.S_slice HZ.out; subst ez; replace BK3 := aG BK3 hb; replace BK10 := aG BK10 hb; replace HB := zM (ag HB.out hb); clear hb ho)
    clear hc3_0 hf3_0 hc3_1 hf3_1
    have HZL := zM (show z.length ≤ 1048576 by have h := H10.out; unfold fH at h; rw [Bool.and_eq_true, decide_eq_true_eq] at h; exact h.1)
    go_loopg [65] (z.length + 1) (fun kq v65 w' => ∃ (m : Nat), v65 = .int .i64 m ∧ Aside0 (m ≤ z.length) ∧ Aside0 (kq = z.length - m + 1) ∧ Aside0 (w'.heap[g10]? = some (.cells #[.int .u64 out] 52 (0, 0))) ∧ Aside0 (w'.heap[g3]? = some (.cells #[.int .i64 a0_0, .slice A0_1 l0_1.length c0_1] 29 (0, 0))) ∧ Aside0 (Kd.S (Kd.slice 3 (Kd.int .i64)) 25 w' w.heap.size (fun _ => True) (.slice Az z.length cz) (aN out 0 (z.take m) ++ z.drop m)) ∧ Aside0 (Below w.heap.size w w'))
    case atStart => exact ⟨0, rfl, ⟨Nat.zero_le _⟩, ⟨by omega⟩, BK10, BK3, ⟨by rw [List.take_zero, List.drop_zero]; exact HZ.out⟩, HB⟩
    case round =>
      clear BK10 BK3 HZ HB
      obtain ⟨m, rfl, HM, HK1, BK10, BK3, HZ, HB⟩ := hrel
      have HN := zM (show (aN out 0 (z.take m) ++ z.drop m).length = z.length by rw [List.length_append, fK, List.length_take, List.length_drop]; have := HM.out; omega)
      by_cases c1 : m < z.length
      · have p1 : (0 : Int) ≤ (m : Int) := by omega
        have q1 : (m : Int) < (z.length : Int) := by omega
        have c1b : decide ((m : Int) < (z.length : Int)) = true := af q1
        have c1c : decide (m < z.length) = true := af c1
        have hw1 : (m : Int) + 1 ≤ 9223372036854775807 := by have := HZL.out; omega
        go_upto_region 16 with ((with_reducible refine au (N := 14) rfl ?_); refine ze 14 #[.int .i64 0] 3 ?_; intro g14 hg w7 hbox hb; have HG14 := zM (show w.heap.size ≤ g14 by rw [hg]; exact am HB.out); have NE3 := zM (show g3 ≠ g14 by rw [hg]; exact Nat.ne_of_lt (aH BK3.out)); have NE10 := zM (show g10 ≠ g14 by rw [hg]; exact Nat.ne_of_lt (aH BK10.out)); replace HZ := zM (Kd.S_below (Kd.S_elderB HZ.out g14 (by rw [hg]; exact ar _)) hb); replace BK3 := aG BK3 hb; replace BK10 := aG BK10 hb; replace HB := zM (ag HB.out hb); have BK14 := zM hbox; clear hg hb hbox; have hc14_0 := zy BK14 0; have hf14_0 := ae BK14.out 0)
        (try simp only [Act.put, List.setIfInBounds_toArray, List.set_cons_zero, List.set_cons_succ])
        clear hc14_0 hf14_0
        have BK14n := zM (aK (cs := #[.int .i64 0]) BK14.out 0 (.int .i64 (m : Int)) rfl)
        have BK3n := zM (bG BK3.out (p := ⟨g14, 0, none⟩) NE3.out (.int .i64 (m : Int)))
        have BK10n := zM (bG BK10.out (p := ⟨g14, 0, none⟩) NE10.out (.int .i64 (m : Int)))
        have HZn := zM (Kd.S_far (p := ⟨g14, 0, none⟩) HZ.out (fun _ hk => hk.2) (.int .i64 (m : Int)))
        have HBn := zM (bJ (j := 0) (v := .int .i64 (m : Int)) HB.out HG14.out)
        clear BK14 BK3 BK10 HZ HB
        generalize w7.setCell ⟨g14, 0, none⟩ (.int .i64 (m : Int)) = wb at BK14n BK3n BK10n HZn HBn ⊢
        have HZ2 := zM (Kd.S_drew (Kd.S_types (Kd.S_types HZn.out BK10n.out (by decide)) BK3n.out (by decide)))
        have BK3 := zM (aq BK3n.out)
        have BK10 := zM (aq BK10n.out)
        have BK14 := zM (aq BK14n.out)
        have HB := zM (aD HBn.out)
        clear BK14n BK3n BK10n HZn HBn
        obtain ⟨gz, capz, eg, gb, gl, HG⟩ := Kd.S_form HZ2.out (by rw [HN.out]; omega)
        rw [HN.out] at eg
        injection eg with eA _ ec
        subst eA; subst ec
        have HGZ := zM (show ((True ∧ gz ≠ g14) ∧ gz ≠ g10) ∧ gz ≠ g3 by
          obtain ⟨f, h⟩ := HZ2.out
          exact h.1 gz (by simp [Value.ownBlock]))
        have HGB := zM gb
        obtain ⟨oki, cs, hcl, hM, hcc, hoki, HH⟩ := Kd.S_lend HZ2.out ([] : List Int) (m : Int) (by omega) q1
        obtain ⟨vr, rfl, hR⟩ := hM
        have hrow : (aN out 0 (z.take m) ++ z.drop m).getD (m : Int).toNat [] = z[m] := by
          rw [Int.toNat_natCast, List.getD_eq_getElem?_getD, List.getElem?_append_right (by rw [fK, List.length_take]; omega), fK, List.length_take, show m - min m z.length = 0 by omega, List.getElem?_drop, Nat.add_zero, List.getElem?_eq_getElem c1, Option.getD_some]
        rw [hrow] at hR
        have hx0 := hcc 0 _ rfl
        rw [Int.toNat_natCast, show (Kd.slice 3 (Kd.int .i64)).sz = 1 from rfl, Nat.mul_one, Nat.add_zero] at hx0
        obtain ⟨Av, cv, ev⟩ := Kd.R_slice hR
        subst ev
        have HRL := zM (show z[m].length ≤ 1048576 ∧ ∀ y ∈ z[m], 0 ≤ y by
          have h := H10.out
          unfold fH at h
          rw [Bool.and_eq_true, List.all_eq_true] at h
          have h2 := h.2 z[m] (List.getElem_mem c1)
          rw [Bool.and_eq_true, decide_eq_true_eq, List.all_eq_true] at h2
          exact ⟨h2.1, fun y hy => ac (h2.2 y hy)⟩)
        have HE := zM (lM (aN out 0 (z.take m)) z m (by rw [fK, List.length_take]; omega) c1 (fL out (m : Int) z[m]))
        have HS2 := zM (mI out z 0 m c1)
        rw [Nat.zero_add] at HS2
        generalize z[m] = row at hR hx0 HRL HE HS2 HH
        have HRo := zM hR
        have HHo := zM HH
        have HOK := zM hoki
        have HC1_ := zM c1
        replace p1 := eq_true p1
        replace q1 := eq_true q1
        clear c1 hR HH hoki hcc hcl gl HG hrow HZ2 gb
        refine g8 (n := 10) (S := fun w' => w'.cell? ⟨g14, 0, none⟩ = some (.int .i64 (m : Int)) ∧ w'.cell? ⟨gz, m, none⟩ = some (.slice Av row.length cv)) (ds := [9]) #[false, false, false, false, false, false, false, false, false, false] (by kernel_rfl) rfl rfl ⟨(ah BK14.out 0).trans rfl, hx0⟩ (fun hHeld => ?_)
        clear hx0
        generalize wb.drew = wd at BK3 BK10 BK14 HRo HHo HB hHeld ⊢
        refine zq 0 68 ?_
        refine zl 1 69 hHeld ?_ (hy := by rintro w' ⟨s0, s1⟩; go_simp; with_reducible rfl)
        refine zq 2 70 ?_
        refine zl 3 71 hHeld ?_ (hy := by rintro w' ⟨s0, s1⟩; go_simp; with_reducible rfl)
        refine zq 4 72 ?_
        refine zl 5 73 hHeld ?_ (hy := by rintro w' ⟨s0, s1⟩; go_simp; with_reducible rfl)
        refine zq 6 74 ?_
        refine zh 7 75 Tryz.func36 #[.slice Av row.length cv, .func (.func 37) #[] #[.pointer (some ⟨g10, 0, none⟩), .pointer (some ⟨g14, 0, none⟩)]] (fun K hK => ?_)
        refine (tB 37 #[.pointer (some ⟨g10, 0, none⟩), .pointer (some ⟨g14, 0, none⟩)] (enters_of Tryz.func37 (by kernel_rfl) rfl) (fun y => aA out (m : Int) || aA out y) row oki _ w wd (fun W y hy hk => qS g10 g14 out (m : Int) y (of_eq_true p1) (HRL.out.2 y hy) W ((ah (gV BK10.out hk (fun h => (HOK.out _ h).1.1.2 rfl)) 0).trans rfl) ((ah (gV BK14.out hk (fun h => (HOK.out _ h).1.1.1.2 rfl)) 0).trans rfl)) HB.out HRo.out HRL.out.1).mono ?_
        rintro e we ⟨vn, rfl, hy, hb, hk⟩
        have hy2 : (Kd.int .i64).R 3 we w.heap.size oki vn (fL out (m : Int) row) := hy
        clear hy
        generalize fL out (m : Int) row = row2 at hy2 HE HS2
        obtain ⟨An, cn, en⟩ := Kd.R_slice hy2
        subst en
        replace BK3 := g6 BK3 hk (fun h => (HOK.out _ h).1.2 rfl)
        replace BK10 := g6 BK10 hk (fun h => (HOK.out _ h).1.1.2 rfl)
        replace BK14 := g6 BK14 hk (fun h => (HOK.out _ h).1.1.1.2 rfl)
        replace HB := zM hb
        have HH2 := zM (Kd.H_kept HHo.out hk (fun _ _ hn => hn))
        have HY := zM hy2
        clear hb hk hy2 HHo HRo
        have hcz : we.cell? ⟨gz, m, none⟩ = some (.slice Av row.length cv) := by
          obtain ⟨_, _, _, _, _, hcc, _⟩ := Kd.H_raw HH2.out (by omega) (of_eq_true q1)
          have h := hcc 0 _ rfl
          rw [Int.toNat_natCast, show (Kd.slice 3 (Kd.int .i64)).sz = 1 from rfl, Nat.mul_one, Nat.add_zero] at h
          exact h
        have hfz : we.frozen? ⟨gz, m, none⟩ = false := by
          obtain ⟨rows, _, hraw, _, _, _, _⟩ := Kd.H_raw HH2.out (by omega) (of_eq_true q1)
          obtain ⟨c0, _, _, _, hf⟩ := Kd.R_elem hraw ([] : List Value) (m : Int) (by omega) (of_eq_true q1)
          have h2 := hf 0
          have hs : ((m : Int).toNat * (Kd.raw (Kd.slice 3 (Kd.int .i64)).sz).sz + 0) = m := by
            show (m : Int).toNat * 1 + 0 = m
            omega
          rw [hs] at h2
          exact h2
        refine ⟨_, rfl, ?_⟩
        refine hK.out _ _ ⟨(ah BK14.out 0).trans rfl, hcz⟩ (fun hHeld => ?_)
        clear hK K
        refine zn 75 ?_
        refine zq 8 76 ?_
        refine jj (i := 9) (N := none) #[true, true, true, true, true, true, true, true, true, true] rfl rfl (by kernel_rfl) (by decide) (fun K hK => ?_)
        refine i4 (w1 := ?_) (by rfl) rfl ?_ ?_
        rotate_left
        · go_simp
          rfl
        refine hK.out _ _ ?_
        clear hK K
        refine zx ?_
        obtain ⟨hse, _⟩ := Kd.H_seg HH2.out (by omega) (of_eq_true q1) (seg := [.slice An row2.length cn]) (j := 0) (by show 0 + 1 ≤ 1; omega) (fun q hq => by rw [List.mem_singleton.1 hq]; rfl)
        have eW : we.setCells gz ((m : Int).toNat * (Kd.slice 3 (Kd.int .i64)).sz + 0) [.slice An row2.length cn] = we.setCell ⟨gz, m, none⟩ (.slice An row2.length cn) := by
          rw [Int.toNat_natCast, show (Kd.slice 3 (Kd.int .i64)).sz = 1 from rfl, Nat.mul_one, Nat.add_zero]
          rfl
        rw [eW] at hse
        have hz3 := Kd.S_mono (Kd.H_back hse (x' := row2) (okp := oki) ⟨_, rfl, Kd.R_far (p := ⟨gz, m, none⟩) HY.out (fun k hk => (HOK.out k hk).2) _⟩ (fun _ hk => hk)) (ok' := fun _ => True) (fun _ _ => trivial)
        rw [Int.toNat_natCast, HE.out, ← HS2.out] at hz3
        have HZ3 := zM hz3
        have BK3n := zM (bG BK3.out (p := ⟨gz, m, none⟩) (fun e_ => HGZ.out.2 e_.symm) (.slice An row2.length cn))
        have BK10n := zM (bG BK10.out (p := ⟨gz, m, none⟩) (fun e_ => HGZ.out.1.2 e_.symm) (.slice An row2.length cn))
        have HBn := zM (bJ (j := m) (v := .slice An row2.length cn) HB.out HGB.out)
        clear hse eW hz3 HH2 HY BK3 BK10 BK14 HB hcz hfz hHeld HOK
        go_wp2
        go_roundg (z.length - m)
        case measure => have := HK1.out; have := HC1_.out; omega
        case rel => exact ⟨m + 1, by first | rfl | (simp; done) | go_num, ⟨by have := HC1_.out; omega⟩, ⟨by have := HC1_.out; omega⟩, BK10n, BK3n, HZ3, HBn⟩
      · have q1 : ¬ (m : Int) < (z.length : Int) := by omega
        have c1b : decide ((m : Int) < (z.length : Int)) = false := ao q1
        have c1c : decide (m < z.length) = false := ao c1
        have HZ3 := zM (show Kd.S (Kd.slice 3 (Kd.int .i64)) 25 wr w.heap.size (fun _ => True) (.slice Az z.length cz) (aN out 0 z) by
          have h := HZ.out
          rw [List.take_of_length_le (by omega), List.drop_eq_nil_of_le (by omega), List.append_nil] at h
          exact h)
        clear HZ c1 q1 HK1 HM HN BK3
        go_wp2_with (go_at_call 39; refine oh (args' := #[.slice Az (aN out 0 z).length cz, .int .i64 (-1)]) (by rw [fK]) ?_; refine (m7 k _ _ (aN out 0 z) (-1) ps _ (zC (by have h := (Kd.S_reads' HZ3.out).2.2; exact h)) (by rw [fK]; exact (Kd.S_reads' HZ3.out).2.1) H11.out).mono ?_; rintro e w9 ⟨vp, rfl, ho, hb⟩; have HP := zM (Kd.S_lower ho (am HB.out)); obtain ⟨Ap, cp, ep⟩ := Kd.S_slice HP.out; subst ep; replace BK10 := aG BK10 hb; replace HB := zM (ag HB.out hb); clear hb ho)
        have HPL := zM (show ps.length ≤ 9223372036854775807 from (Kd.S_reads' HP.out).2.2.2.1)
        clear HZ3
        go_loopg [81] (ps.length + 1) (fun kq v81 w' => ∃ (m : Nat), v81 = .int .i64 m ∧ Aside0 (m ≤ ps.length) ∧ Aside0 (kq = ps.length - m + 1) ∧ Aside0 (fh k out l1 l2 (ps.drop m) = some (r1, r2)) ∧ Aside0 (w'.heap[g10]? = some (.cells #[.int .u64 out] 52 (0, 0))) ∧ Aside0 (Kd.S (Kd.slice 3 (Kd.int .i64)) 25 w' w.heap.size (fun _ => True) (.slice Ap ps.length cp) ps) ∧ Aside0 (Below w.heap.size w w'))
        case atStart => exact ⟨0, rfl, ⟨Nat.zero_le _⟩, ⟨by omega⟩, ⟨by rw [List.drop_zero]; exact H12.out⟩, BK10, HP, HB⟩
        case round =>
          clear BK10 HP HB H12
          obtain ⟨m, rfl, HM, HK1, HST, BK10, HP, HB⟩ := hrel
          by_cases c1 : m < ps.length
          · have p1 : (0 : Int) ≤ (m : Int) := by omega
            have q1 : (m : Int) < (ps.length : Int) := by omega
            obtain ⟨ad1, A9, c9, ea, hx1, hl1, hi1⟩ := ee (Kd.S_reads' HP.out).2.2 (m : Int) p1 q1
            subst ea
            rw [Int.toNat_natCast] at hx1
            have hg1 : ai ps (m : Int) = ps[m] := by simp [ai, List.getD_eq_getElem?_getD, List.getElem?_eq_getElem c1]
            rw [hg1] at hx1 hl1 hi1
            have hst := HST.out
            rw [List.drop_eq_getElem_cons c1, fh] at hst
            generalize ps[m] = row at hx1 hl1 hi1 hst
            obtain ⟨pb, h1, hst⟩ := av hst
            obtain ⟨ab, h2, hst⟩ := av hst
            obtain ⟨s1, h3, hst⟩ := av hst
            obtain ⟨bb, h4, hst⟩ := av hst
            obtain ⟨s2, h5, hst⟩ := av hst
            have P1 := zM h1
            have P2 := zM h2
            have P3 := zM h3
            have P4 := zM h4
            have P5 := zM h5
            have HLE := zM hl1
            have HC1_ := zM c1
            have c1b : decide ((m : Int) < (ps.length : Int)) = true := af q1
            have c1c : decide (m < ps.length) = true := af c1
            have hw1 : (m : Int) + 1 ≤ 9223372036854775807 := by have := HPL.out; omega
            have HRI := zM hi1
            replace p1 := eq_true p1
            replace q1 := eq_true q1
            clear c1 hg1 h1 h2 h3 h4 h5 hl1 hi1 HST
            go_upto_region 21 with (fail)
            (try simp only [Act.put, List.setIfInBounds_toArray, List.set_cons_zero, List.set_cons_succ])
            clear hx1
            replace BK10 := zM (aq BK10.out)
            replace HP := zM (Kd.S_drew HP.out)
            replace HRI := zM (Kd.C_drew HRI.out)
            replace HB := zM (aD HB.out)
            refine zs (n := 5) (fun w' => w'.cell? ⟨g10, 0, none⟩ = some (.int .u64 out)) ((ah BK10.out 0).trans rfl) (fun hHeld => ?_)
            generalize wr.drew = wd at BK10 HP HRI HB hHeld ⊢
            refine zq 0 85 ?_
            refine zl 2 87 hHeld ?_ (hy := by intro w' s0; go_simp; with_reducible rfl)
            refine zh 1 86 Tryz.func32 #[.slice A9 row.length c9] (fun K hK => ?_)
            refine (cI k _ _ row pb _ HRI.out HLE.out P1.out).mono ?_
            rintro e we ⟨rfl, hd⟩
            have hb := hd.below
            clear hd HRI
            replace BK10 := aG BK10 hb
            replace HP := eh HP hb
            replace HB := zM (ag HB.out hb)
            clear hb
            refine ⟨_, rfl, ?_⟩
            refine hK.out _ _ ((ah BK10.out 0).trans rfl) (fun hHeld => ?_)
            clear hK K
            refine zn 86 ?_
            refine zq 3 88 ?_
            refine zq 4 17 ?_
            refine zx ?_
            by_cases cs : s1 = s2
            · rw [if_pos cs] at hst
              have HST := zM hst
              have g1 : (s1 == s2) = true := beq_iff_eq.mpr cs
              have g2 : decide (s1 = s2) = true := af cs
              clear hst
              go_wp2_with (first
               | (go_at_call 32; with_reducible refine (cI k _ _ l1 ab _ (zC (Kd.C_below HR1.out HB.out)) HC1.out P2.out).mono ?_; rintro e w6 ⟨rfl, hd⟩; have hb := hd.below; clear hd; replace BK10 := aG BK10 hb; replace HP := eh HP hb; replace HB := zM (ag HB.out hb); clear hb)
               | (go_at_call 32; with_reducible refine (cI k _ _ l2 bb _ (zC (Kd.C_below HR2.out HB.out)) HC2.out P4.out).mono ?_; rintro e w6 ⟨rfl, hd⟩; have hb := hd.below; clear hd; replace BK10 := aG BK10 hb; replace HP := eh HP hb; replace HB := zM (ag HB.out hb); clear hb)
               | (go_at_call 40; with_reducible refine (d5 (Go.bits .and .u64 (Go.bits .andNot .u64 pb out) ab) s1 _ P3.out).mono ?_; rintro e w6 ⟨rfl, hb⟩; replace BK10 := aG BK10 hb; replace HP := eh HP hb; replace HB := zM (ag HB.out hb); clear hb)
               | (go_at_call 40; with_reducible refine (d5 (Go.bits .and .u64 (Go.bits .andNot .u64 pb out) bb) s2 _ P5.out).mono ?_; rintro e w6 ⟨rfl, hb⟩; replace BK10 := aG BK10 hb; replace HP := eh HP hb; replace HB := zM (ag HB.out hb); clear hb))
              go_roundg (ps.length - m)
              case measure => have := HK1.out; have := HC1_.out; omega
              case rel => exact ⟨m + 1, by first | rfl | (simp; done) | go_num, ⟨by have := HC1_.out; omega⟩, ⟨by have := HC1_.out; omega⟩, HST, BK10, HP, HB⟩
            · rw [if_neg cs] at hst
              have hr := ap hst
              have hr1 := congrArg Prod.fst hr
              have hr2 := congrArg Prod.snd hr
              dsimp only at hr1 hr2
              subst hr1
              subst hr2
              have g1 : (s1 == s2) = false := beq_eq_false_iff_ne.mpr cs
              have g2 : decide (s1 = s2) = false := ao cs
              clear hst hr cs hw1
              (repeat (first
               | (go_at_call 32; with_reducible refine (cI k _ _ l1 ab _ (zC (Kd.C_below HR1.out HB.out)) HC1.out P2.out).mono ?_; rintro e w6 ⟨rfl, hd⟩; have hb := hd.below; clear hd; replace BK10 := aG BK10 hb; replace HP := eh HP hb; replace HB := zM (ag HB.out hb); clear hb; dsimp only)
               | (go_at_call 32; with_reducible refine (cI k _ _ l2 bb _ (zC (Kd.C_below HR2.out HB.out)) HC2.out P4.out).mono ?_; rintro e w6 ⟨rfl, hd⟩; have hb := hd.below; clear hd; replace BK10 := aG BK10 hb; replace HP := eh HP hb; replace HB := zM (ag HB.out hb); clear hb; dsimp only)
               | (go_at_call 40; with_reducible refine (d5 (Go.bits .and .u64 (Go.bits .andNot .u64 pb out) ab) s1 _ P3.out).mono ?_; rintro e w6 ⟨rfl, hb⟩; replace BK10 := aG BK10 hb; replace HP := eh HP hb; replace HB := zM (ag HB.out hb); clear hb; dsimp only)
               | (go_at_call 40; with_reducible refine (d5 (Go.bits .and .u64 (Go.bits .andNot .u64 pb out) bb) s2 _ P5.out).mono ?_; rintro e w6 ⟨rfl, hb⟩; replace BK10 := aG BK10 hb; replace HP := eh HP hb; replace HB := zM (ag HB.out hb); clear hb; dsimp only)
               | go_skip | go_guarded | go_step | go_upon))
              go_ret2
              exact ⟨rfl, HB.out⟩
          · have q1 : ¬ (m : Int) < (ps.length : Int) := by omega
            have c1b : decide ((m : Int) < (ps.length : Int)) = false := ao q1
            have c1c : decide (m < ps.length) = false := ao c1
            have hst := HST.out
            rw [List.drop_eq_nil_of_le (by omega), fh] at hst
            have hr := ap hst
            have hr1 := congrArg Prod.fst hr
            have hr2 := congrArg Prod.snd hr
            dsimp only at hr1 hr2
            subst hr1
            subst hr2
            clear HST hst hr c1 q1
            go_wp2
            go_ret2
            exact ⟨rfl, HB.out⟩
set_option maxHeartbeats 4000000 in
theorem sf (k : Nat) (a0_0 : Int) (A0_1 : Option Addr) (c0_1 : Nat) (l0_1 : List (S63)) (A1 : Option Addr) (c1 : Nat) (l1 : List Int) (A2 : Option Addr) (c2 : Nat) (l2 : List Int) (r1 : Bool) (r2 : Bool) (w : World) (hr0_1 : Kd.C k63 w A0_1 l0_1.length l0_1) (hc0_1 : l0_1.length ≤ c0_1) (hr1_ : Kd.C (Kd.int .i64) w A1 l1.length l1) (hc1 : l1.length ≤ c1) (hr2_ : Kd.C (Kd.int .i64) w A2 l2.length l2) (hc2 : l2.length ≤ c2) (h : eK k a0_0 l0_1 l1 l2 = some (r1, r2)) :
 Calls Tryz.prog 16 #[.agg #[.int .i64 a0_0, .slice A0_1 l0_1.length c0_1], .slice A1 l1.length c1, .slice A2 l2.length c2] w fun e w' => e = .returned (.tuple #[.bool r1, .bool r2]) ∧ Below w.heap.size w w' := by
  unfold eK at h
  obtain ⟨t1, h1, h⟩ := av h
  cases t1 with
  | false =>
   rw [if_neg (by decide)] at h
   have hr := ap h
   have hr1 := congrArg Prod.fst hr
   have hr2 := congrArg Prod.snd hr
   dsimp only at hr1 hr2
   subst hr1; subst hr2
   exact qN k a0_0 A0_1 c0_1 l0_1 A1 c1 l1 A2 c2 l2 w hr0_1 hc0_1 hr1_ hc1 hr2_ hc2 h1
  | true =>
   rw [if_pos rfl] at h
   obtain ⟨t2, h2, h⟩ := av h
   cases t2 with
   | false =>
    rw [if_neg (by decide)] at h
    have hr := ap h
    have hr1 := congrArg Prod.fst hr
    have hr2 := congrArg Prod.snd hr
    dsimp only at hr1 hr2
    subst hr1; subst hr2
    exact qM k a0_0 A0_1 c0_1 l0_1 A1 c1 l1 A2 c2 l2 w hr0_1 hc0_1 hr1_ hc1 hr2_ hc2 h1 h2
   | true =>
    rw [if_pos rfl] at h
    by_cases hl : l1.length = l2.length
    · rw [if_pos hl] at h
      obtain ⟨L1, h3, h⟩ := av h
      obtain ⟨b1, h4, h⟩ := av h
      obtain ⟨L2, h5, h⟩ := av h
      obtain ⟨b2, h6, h⟩ := av h
      by_cases hb : b1 = b2
      · rw [if_pos hb] at h
        obtain ⟨ls, h7, h⟩ := av h
        obtain ⟨out, h8, h⟩ := av h
        obtain ⟨z, h9, h⟩ := av h
        by_cases hz : fH z = true
        · rw [if_pos hz] at h
          obtain ⟨ps, h11, h12⟩ := av h
          exact qO k a0_0 A0_1 c0_1 l0_1 A1 c1 l1 A2 c2 l2 w hr0_1 hc0_1 hr1_ hc1 hr2_ hc2 L1 L2 b1 b2 h1 h2 hl h3 h4 h5 h6 ls out z ps r1 r2 hb h7 h8 h9 hz h11 h12
        · rw [if_neg hz] at h
          cases h
      · rw [if_neg hb] at h
        have hr := ap h
        have hr1 := congrArg Prod.fst hr
        have hr2 := congrArg Prod.snd hr
        dsimp only at hr1 hr2
        subst hr1; subst hr2
        exact qK k a0_0 A0_1 c0_1 l0_1 A1 c1 l1 A2 c2 l2 w hr0_1 hc0_1 hr1_ hc1 hr2_ hc2 L1 L2 b1 b2 h1 h2 hl h3 h4 h5 h6 hb
    · rw [if_neg hl] at h
      have hr := ap h
      have hr1 := congrArg Prod.fst hr
      have hr2 := congrArg Prod.snd hr
      dsimp only at hr1 hr2
      subst hr1; subst hr2
      exact qL k a0_0 A0_1 c0_1 l0_1 A1 c1 l1 A2 c2 l2 w hr0_1 hc0_1 hr1_ hc1 hr2_ hc2 h1 h2 hl
end Go.Proofs.YtjgcehldepfaaaaGreat.P
