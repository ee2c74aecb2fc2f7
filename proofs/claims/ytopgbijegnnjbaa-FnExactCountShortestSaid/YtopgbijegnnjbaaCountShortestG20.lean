/- Short words for the straight walk of a law: what a call has made lies between two sizes of the heap. -/
import Derived.Test.YtopgbijegnnjbaaCountShortestG5
import Derived.Test.YtopgbijegnnjbaaCountShortestG14
import Derived.Test.YtopgbijegnnjbaaCountShortestG19
import Derived.Test.YtopgbijegnnjbaaCountShortestG17
import Derived.Test.YtopgbijegnnjbaaCountShortestG18
import Derived.Test.YtopgbijegnnjbaaCountShortestG11
import Derived.Test.YtopgbijegnnjbaaCountShortestG13
import Derived.Test.YtopgbijegnnjbaaCountShortestG8
import Derived.Test.YtopgbijegnnjbaaCountShortestG16
namespace Go.Proofs.Ytopgbijegnnjbaa.P
open Go.RowKit Go.Proofs.YtopgbijegnnjbaaW.PrintWords Go.Proofs.YtopgbijegnnjbaaW.PrintLast Go.Proofs.YtopgbijegnnjbaaW.PrintMore
set_option linter.unusedVariables false
section
variable {α : Type} {d : Kd α} {e base : Nat} {ok S : Nat → Prop} {w W W1 : World} {v : Value} {xs : List α} {g : Nat} {o : Obj}
theorem uR (hB : Below w.heap.size w W) (h : d.R e W1 W.heap.size (fun _ => True) v xs) : Aside0 (d.R e W1 w.heap.size (fun k => W.heap.size ≤ k ∧ k < W1.heap.size) v xs) :=
  ⟨Kd.R_mono (Kd.R_lower (Kd.R_bound h) (below_size hB)) (fun k hk => ⟨hk.2.1, hk.2.2.1⟩)⟩
theorem uS (hB : Below w.heap.size w W) (h : Kd.S d e W1 W.heap.size (fun _ => True) v xs) : Aside0 (Kd.S d e W1 w.heap.size (fun k => W.heap.size ≤ k ∧ k < W1.heap.size) v xs) :=
  ⟨Kd.S_mono (Kd.S_lower (Kd.S_bound h) (below_size hB)) (fun k hk => ⟨hk.2.1, hk.2.2.1⟩)⟩
theorem uRb (h : Aside0 (d.R e W base ok v xs)) (hb : Below W.heap.size W W1) : Aside0 (d.R e W1 base ok v xs) := ⟨Kd.R_below h.out hb⟩
theorem uSb (h : Aside0 (Kd.S d e W base ok v xs)) (hb : Below W.heap.size W W1) : Aside0 (Kd.S d e W1 base ok v xs) := ⟨Kd.S_below h.out hb⟩
theorem uKb (h : Aside0 (W.heap[g]? = some o)) (hb : Below W.heap.size W W1) : Aside0 (W1.heap[g]? = some o) := ⟨blk_below h.out hb⟩
theorem uRk (h : Aside0 (d.R e W base ok v xs)) (hk : Kept W W1 S) (hne : ∀ k, ok k → ¬ S k) : Aside0 (d.R e W1 base ok v xs) := ⟨Kd.R_kept h.out hk hne⟩
theorem uSk (h : Aside0 (Kd.S d e W base ok v xs)) (hk : Kept W W1 S) (hne : ∀ k, ok k → ¬ S k) : Aside0 (Kd.S d e W1 base ok v xs) := ⟨Kd.S_kept h.out hk hne⟩
theorem uKk (h : Aside0 (W.heap[g]? = some o)) (hk : Kept W W1 S) (hne : ¬ S g) : Aside0 (W1.heap[g]? = some o) := ⟨blk_kept h.out hk hne⟩
/-- A struct of two cells is stored into the call's own block. -/
theorem uBox {P : Program} {f : FuncId} {args : Array Value} {Q : Ending → World → Prop} {t : TypeId} {x y a b : Value} (hb : Aside0 (W.heap[g]? = some (.cells #[x, y] t (0, 0)))) (hB : Aside0 (Below w.heap.size w W)) (hg : w.heap.size ≤ g)
    (h : ∀ W', Aside0 (W'.heap[g]? = some (.cells #[a, b] t (0, 0))) → Kept W W' (fun k => k = g) → Aside0 (Below w.heap.size w W') → Calls P f args W' Q) : Calls P f args ((W.setCell ⟨g, 0, none⟩ a).setCell ⟨g, 1, none⟩ b) Q :=
  h _ ⟨blk_put (cs := #[a, y]) (blk_put (cs := #[x, y]) hb.out 0 a rfl) 1 b rfl⟩ (Kept.setCell (Kept.setCell (Kept.refl W (fun k => k = g)) (p := ⟨g, 0, none⟩) (.inl rfl) a) (p := ⟨g, 1, none⟩) (.inl rfl) b) ⟨below_set (below_set hB.out hg) hg⟩
end
end Go.Proofs.Ytopgbijegnnjbaa.P
namespace Go.Proofs.Ytopgbijegnnjbaa.P
open Go.RowKit Go.Proofs.YtopgbijegnnjbaaW.PrintWords Go.Proofs.YtopgbijegnnjbaaW.PrintLast Go.Proofs.YtopgbijegnnjbaaW.PrintMore
set_option linter.unusedVariables false
set_option linter.unusedSimpArgs false
set_option maxRecDepth 100000 in
set_option maxHeartbeats 4000000 in
theorem laws_FnExactCountShortest.exit0 (A0_0 : Option Addr) (ca0_0 : Nat) (l0_0 : List (List Int)) (A0_1 : Option Addr) (ca0_1 : Nat) (l0_1 : List (S50)) (a1 : Int) (a2 : Int) (k0 : Nat) (t0 : Int) (w : World) (hr0_0 : Kd.C (Kd.slice 3 (Kd.int .i64)) w A0_0 l0_0.length l0_0) (hc0_0 : l0_0.length ≤ ca0_0) (hr0_1 : Kd.C k50 w A0_1 l0_1.length l0_1) (hc0_1 : l0_1.length ≤ ca0_1) (c0 : t0 < 0) (h0 : laws_szSpace.f k0 l0_0 l0_1 1048576 = some t0) :
    Calls Try.prog 3 #[.agg #[.slice A0_0 l0_0.length ca0_0, .slice A0_1 l0_1.length ca0_1], .int .i64 a1, .int .i64 a2] w fun e w' => e = .returned (.bool true) ∧ Below w.heap.size w w' := by
  have hu25 := Try.underlying25
  have hu29 := Try.underlying29
  have HR0_0 := zM hr0_0; clear hr0_0
  have HC0_0 := zM hc0_0; clear hc0_0
  have HR0_1 := zM hr0_1; clear hr0_1
  have HC0_1 := zM hc0_1; clear hc0_1
  have HB := zM (Below.refl w.heap.size w)
  have H0 := zM h0; clear h0
  have c0b : decide (t0 < 0) = true := decide_eq_true c0
  clear c0
  go_enter Try.func3, Try.ntmps3
  go_wp2_with (first
    | ((with_reducible refine gate_dst (N := 3) rfl ?_); refine ze 3 #[.slice A0_0 l0_0.length ca0_0, .slice A0_1 l0_1.length ca0_1] 25 ?_; intro gb3 hg w1 hbox hb; have HG3 := zM hg; have HW3 := zM (show w.heap.size ≤ gb3 by rw [hg]; exact below_size HB.out); have HL3 := zM (blk_lt hbox); clear hg; have HS1 := zM hb.size; replace HB := zM (below_step HB.out hb); have BK3 := zM hbox; clear hbox hb; have hc3_0 := zy BK3 0; have hf3_0 := blk_frozen BK3.out 0; have hc3_1 := zy BK3 1; have hf3_1 := blk_frozen BK3.out 1)
    | (have hst_ : Aside0 (Below w.heap.size w w1) := HB; clear hst_; go_at_call 4; refine (laws_szSpace.calls k0 _ _ l0_0 _ _ l0_1 1048576 t0 _ ?side1 ?side2 ?side3 ?side4 H0.out).mono ?_; (case side1 => exact zC (Kd.C_below HR0_0.out HB.out)); (case side2 => exact HC0_0.out); (case side3 => exact zC (Kd.C_below HR0_1.out HB.out)); (case side4 => exact HC0_1.out); rintro e w2 ⟨rfl, hb⟩; replace BK3 := uKb BK3 hb; have HS2 := zM hb.size; replace HB := zM (below_step HB.out hb); clear hb; replace hc3_0 := zy BK3 0; replace hf3_0 := blk_frozen BK3.out 0; replace hc3_1 := zy BK3 1; replace hf3_1 := blk_frozen BK3.out 1))
  go_ret
  exact ⟨rfl, HB.out⟩
set_option maxRecDepth 100000 in
set_option maxHeartbeats 4000000 in
theorem laws_FnExactCountShortest.walk (A0_0 : Option Addr) (ca0_0 : Nat) (l0_0 : List (List Int)) (A0_1 : Option Addr) (ca0_1 : Nat) (l0_1 : List (S50)) (a1 : Int) (a2 : Int) (k0 k1 k2 k3 k4 : Nat) (t0 : Int) (q0 : Int) (q1 : Bool) (w : World) (hr0_0 : Kd.C (Kd.slice 3 (Kd.int .i64)) w A0_0 l0_0.length l0_0) (hc0_0 : l0_0.length ≤ ca0_0) (hr0_1 : Kd.C k50 w A0_1 l0_1.length l0_1) (hc0_1 : l0_1.length ≤ ca0_1) (c0 : ¬ (t0 < 0)) (h0 : laws_szSpace.f k0 l0_0 l0_1 1048576 = some t0) (h1 : laws_toSpace.f k1 l0_0 l0_1 = some (l0_0, l0_1)) (h2 : spec_CountShortest.f k2 l0_0 l0_1 a1 a2 = some (q0, q1)) (h3 : impl_CountShortest.f k3 l0_0 l0_1 a1 a2 = some (q0, q1)) (h4 : laws_eqSpace.f k4 l0_0 l0_1 l0_0 l0_1 = some true) :
    Calls Try.prog 3 #[.agg #[.slice A0_0 l0_0.length ca0_0, .slice A0_1 l0_1.length ca0_1], .int .i64 a1, .int .i64 a2] w fun e w' => e = .returned (.bool true) ∧ Below w.heap.size w w' := by
  have hu25 := Try.underlying25
  have hu29 := Try.underlying29
  have HR0_0 := zM hr0_0; clear hr0_0
  have HC0_0 := zM hc0_0; clear hc0_0
  have HR0_1 := zM hr0_1; clear hr0_1
  have HC0_1 := zM hc0_1; clear hc0_1
  have HB := zM (Below.refl w.heap.size w)
  have H0 := zM h0; clear h0
  have H1 := zM h1; clear h1
  have H2 := zM h2; clear h2
  have H3 := zM h3; clear h3
  have H4 := zM h4; clear h4
  have c0b : decide (t0 < 0) = false := decide_eq_false c0
  clear c0
  go_enter Try.func3, Try.ntmps3
  go_upto_region 10 with (first
    | ((with_reducible refine gate_dst (N := 3) rfl ?_); refine ze 3 #[.slice A0_0 l0_0.length ca0_0, .slice A0_1 l0_1.length ca0_1] 25 ?_; intro gb3 hg w1 hbox hb; have HG3 := zM hg; have HW3 := zM (show w.heap.size ≤ gb3 by rw [hg]; exact below_size HB.out); have HL3 := zM (blk_lt hbox); clear hg; have HS1 := zM hb.size; replace HB := zM (below_step HB.out hb); have BK3 := zM hbox; clear hbox hb; have hc3_0 := zy BK3 0; have hf3_0 := blk_frozen BK3.out 0; have hc3_1 := zy BK3 1; have hf3_1 := blk_frozen BK3.out 1)
    | (have hst_ : Aside0 (Below w.heap.size w w1) := HB; clear hst_; go_at_call 4; refine (laws_szSpace.calls k0 _ _ l0_0 _ _ l0_1 1048576 t0 _ ?side1 ?side2 ?side3 ?side4 H0.out).mono ?_; (case side1 => exact zC (Kd.C_below HR0_0.out HB.out)); (case side2 => exact HC0_0.out); (case side3 => exact zC (Kd.C_below HR0_1.out HB.out)); (case side4 => exact HC0_1.out); rintro e w2 ⟨rfl, hb⟩; replace BK3 := uKb BK3 hb; have HS2 := zM hb.size; replace HB := zM (below_step HB.out hb); clear hb; replace hc3_0 := zy BK3 0; replace hf3_0 := blk_frozen BK3.out 0; replace hc3_1 := zy BK3 1; replace hf3_1 := blk_frozen BK3.out 1)
    | (have hst_ : Aside0 (Below w.heap.size w w2) := HB; clear hst_; go_at_call 6; refine (laws_toSpace.calls k1 _ _ l0_0 _ _ l0_1 l0_0 l0_1 _ ?side1 ?side2 ?side3 ?side4 H1.out).mono ?_; (case side1 => exact zC (Kd.C_below HR0_0.out HB.out)); (case side2 => exact HC0_0.out); (case side3 => exact zC (Kd.C_below HR0_1.out HB.out)); (case side4 => exact HC0_1.out); rintro e w3 ⟨v0_0, v0_1, rfl, ho0, ho1, hb⟩; replace BK3 := uKb BK3 hb; have HS3 := zM hb.size; have HO0_0 := uS HB.out (by first | exact ho0 | exact Kd.S_mono ho0 (fun _ _ => trivial) | exact Kd.S_mono ho0 (fun _ hk_ => hk_.1)); clear ho0; obtain ⟨Ao0_0, co0_0, eo0_0⟩ := Kd.S_slice HO0_0.out; subst eo0_0; have HO0_1 := uR HB.out (by first | exact ho1 | exact Kd.R_mono ho1 (fun _ _ => trivial) | exact Kd.R_mono ho1 (fun _ hk_ => hk_.1)); clear ho1; obtain ⟨Ao0_1, co0_1, eo0_1⟩ := Kd.R_slice HO0_1.out; subst eo0_1; replace HB := zM (below_step HB.out hb); clear hb; replace hc3_0 := zy BK3 0; replace hf3_0 := blk_frozen BK3.out 0; replace hc3_1 := zy BK3 1; replace hf3_1 := blk_frozen BK3.out 1)
    | (have hst_ : Aside0 (Below w.heap.size w w3) := HB; clear hst_; go_at_call 5; refine (spec_CountShortest.calls k2 _ _ l0_0 _ _ l0_1 a1 a2 q0 q1 _ ?side1 ?side2 ?side3 ?side4 H2.out).mono ?_; (case side1 => exact zC (Kd.S_reads' HO0_0.out).2.2); (case side2 => exact (Kd.S_reads' HO0_0.out).2.1); (case side3 => exact zC (Kd.R_reads' HO0_1.out).2.2); (case side4 => exact (Kd.R_reads' HO0_1.out).2.1); clear HO0_0 HO0_1; rintro e w4 ⟨rfl, hb⟩; replace BK3 := uKb BK3 hb; have HS4 := zM hb.size; replace HB := zM (below_step HB.out hb); clear hb; replace hc3_0 := zy BK3 0; replace hf3_0 := blk_frozen BK3.out 0; replace hc3_1 := zy BK3 1; replace hf3_1 := blk_frozen BK3.out 1)
    | (have hst_ : Aside0 (Below w.heap.size w w4) := HB; clear hst_; go_at_call 6; refine (laws_toSpace.calls k1 _ _ l0_0 _ _ l0_1 l0_0 l0_1 _ ?side1 ?side2 ?side3 ?side4 H1.out).mono ?_; (case side1 => exact zC (Kd.C_below HR0_0.out HB.out)); (case side2 => exact HC0_0.out); (case side3 => exact zC (Kd.C_below HR0_1.out HB.out)); (case side4 => exact HC0_1.out); rintro e w5 ⟨v1_0, v1_1, rfl, ho0, ho1, hb⟩; replace BK3 := uKb BK3 hb; have HS5 := zM hb.size; have HO1_0 := uS HB.out (by first | exact ho0 | exact Kd.S_mono ho0 (fun _ _ => trivial) | exact Kd.S_mono ho0 (fun _ hk_ => hk_.1)); clear ho0; obtain ⟨Ao1_0, co1_0, eo1_0⟩ := Kd.S_slice HO1_0.out; subst eo1_0; have HO1_1 := uR HB.out (by first | exact ho1 | exact Kd.R_mono ho1 (fun _ _ => trivial) | exact Kd.R_mono ho1 (fun _ hk_ => hk_.1)); clear ho1; obtain ⟨Ao1_1, co1_1, eo1_1⟩ := Kd.R_slice HO1_1.out; subst eo1_1; replace HB := zM (below_step HB.out hb); clear hb; replace hc3_0 := zy BK3 0; replace hf3_0 := blk_frozen BK3.out 0; replace hc3_1 := zy BK3 1; replace hf3_1 := blk_frozen BK3.out 1)
    | ((with_reducible refine gate_dst (N := 10) rfl ?_); refine ze 10 #[.slice none 0 0, .slice none 0 0] 29 ?_; intro gb10 hg w6 hbox hb; have HG10 := zM hg; have HW10 := zM (show w.heap.size ≤ gb10 by rw [hg]; exact below_size HB.out); have HL10 := zM (blk_lt hbox); clear hg; replace HO1_0 := uSb HO1_0 hb; replace HO1_1 := uRb HO1_1 hb; replace BK3 := uKb BK3 hb; have HS6 := zM hb.size; replace HB := zM (below_step HB.out hb); have hn3_10 : gb3 ≠ gb10 := (by have := HG10.out; have := HL3.out; have := HS2.out; have := HS3.out; have := HS4.out; have := HS5.out; omega); have hn10_3 := hn3_10.symm; have BK10 := zM hbox; clear hbox hb; replace hc3_0 := zy BK3 0; replace hf3_0 := blk_frozen BK3.out 0; replace hc3_1 := zy BK3 1; replace hf3_1 := blk_frozen BK3.out 1; have hc10_0 := zy BK10 0; have hf10_0 := blk_frozen BK10.out 0; have hc10_1 := zy BK10 1; have hf10_1 := blk_frozen BK10.out 1)
    | (have hst_ : Aside0 (Below w.heap.size w w6) := HB; clear hst_; go_at_call 7; refine uBox BK10 HB HW10.out ?_; intro w7 BKn hk HBn; replace HO1_0 := uSk HO1_0 hk (fun k_ hk_ e_ => by have e2 : k_ = gb10 := e_; have := HG10.out; have := HL10.out; have h2 : w4.heap.size ≤ k_ ∧ k_ < w5.heap.size := hk_; omega); replace HO1_1 := uRk HO1_1 hk (fun k_ hk_ e_ => by have e2 : k_ = gb10 := e_; have := HG10.out; have := HL10.out; have h2 : w4.heap.size ≤ k_ ∧ k_ < w5.heap.size := hk_; omega); replace BK3 := uKk BK3 hk (fun e_ => by have e2 : gb3 = gb10 := e_; have := HG10.out; have := HL10.out; have := HG3.out; have := HL3.out; have := HS2.out; have := HS3.out; have := HS4.out; have := HS5.out; omega); replace BK10 := BKn; replace HB := HBn; clear BKn HBn; have HS7 := zM hk.1; clear hk; refine (impl_CountShortest.calls k3 _ _ l0_0 _ _ l0_1 a1 a2 q0 q1 _ ?side1 ?side2 ?side3 ?side4 H3.out).mono ?_; (case side1 => exact zC (Kd.S_reads' HO1_0.out).2.2); (case side2 => exact (Kd.S_reads' HO1_0.out).2.1); (case side3 => exact zC (Kd.R_reads' HO1_1.out).2.2); (case side4 => exact (Kd.R_reads' HO1_1.out).2.1); rintro e w8 ⟨rfl, hb⟩; replace HO1_0 := uSb HO1_0 hb; replace HO1_1 := uRb HO1_1 hb; replace BK3 := uKb BK3 hb; replace BK10 := uKb BK10 hb; have HS8 := zM hb.size; replace HB := zM (below_step HB.out hb); clear hb; replace hc3_0 := zy BK3 0; replace hf3_0 := blk_frozen BK3.out 0; replace hc3_1 := zy BK3 1; replace hf3_1 := blk_frozen BK3.out 1; replace hc10_0 := zy BK10 0; replace hf10_0 := blk_frozen BK10.out 0; replace hc10_1 := zy BK10 1; replace hf10_1 := blk_frozen BK10.out 1))
  (try simp only [Act.put, List.setIfInBounds_toArray, List.set_cons_zero, List.set_cons_succ])
  replace HO1_0 := zM (Kd.S_drew HO1_0.out)
  replace HO1_1 := zM (Kd.R_drew HO1_1.out)
  replace BK3 := zM (blk_drew BK3.out)
  replace BK10 := zM (blk_drew BK10.out)
  replace HB := zM (below_drew1 HB.out)
  refine zs (n := 5) (fun w' => w'.cell? ⟨gb10, 0, none⟩ = some (.slice Ao1_0 l0_0.length co1_0) ∧ w'.cell? ⟨gb10, 1, none⟩ = some (.slice Ao1_1 l0_1.length co1_1) ∧ w'.cell? ⟨gb3, 0, none⟩ = some (.slice A0_0 l0_0.length ca0_0) ∧ w'.cell? ⟨gb3, 1, none⟩ = some (.slice A0_1 l0_1.length ca0_1)) ⟨(blk_cell BK10.out 0).trans rfl, (blk_cell BK10.out 1).trans rfl, (blk_cell BK3.out 0).trans rfl, (blk_cell BK3.out 1).trans rfl⟩ (fun hHeld => ?_)
  have HS9 := zM (show w8.heap.size ≤ w8.drew.heap.size from Nat.le_refl _)
  generalize w8.drew = w9 at HO1_0 HO1_1 BK3 BK10 HB HS9 hHeld ⊢
  refine zl 0 43 hHeld ?_ (hy := by rintro w' ⟨s0, s1, s2, s3⟩; go_simp; with_reducible rfl)
  refine zl 1 44 hHeld ?_ (hy := by rintro w' ⟨s0, s1, s2, s3⟩; go_simp; with_reducible rfl)
  refine zh 2 45 Try.func6 #[.agg #[.slice A0_0 l0_0.length ca0_0, .slice A0_1 l0_1.length ca0_1]] (fun K hK => ?_)
  (refine (laws_toSpace.calls k1 _ _ l0_0 _ _ l0_1 l0_0 l0_1 _ ?side1 ?side2 ?side3 ?side4 H1.out).mono ?_; (case side1 => exact zC (Kd.C_below HR0_0.out HB.out)); (case side2 => exact HC0_0.out); (case side3 => exact zC (Kd.C_below HR0_1.out HB.out)); (case side4 => exact HC0_1.out); rintro e w10 ⟨v2_0, v2_1, rfl, ho0, ho1, hb⟩; replace HO1_0 := uSb HO1_0 hb; replace HO1_1 := uRb HO1_1 hb; replace BK3 := uKb BK3 hb; replace BK10 := uKb BK10 hb; have HS10 := zM hb.size; have HO2_0 := uS HB.out (by first | exact ho0 | exact Kd.S_mono ho0 (fun _ _ => trivial) | exact Kd.S_mono ho0 (fun _ hk_ => hk_.1)); clear ho0; obtain ⟨Ao2_0, co2_0, eo2_0⟩ := Kd.S_slice HO2_0.out; subst eo2_0; have HO2_1 := uR HB.out (by first | exact ho1 | exact Kd.R_mono ho1 (fun _ _ => trivial) | exact Kd.R_mono ho1 (fun _ hk_ => hk_.1)); clear ho1; obtain ⟨Ao2_1, co2_1, eo2_1⟩ := Kd.R_slice HO2_1.out; subst eo2_1; replace HB := zM (below_step HB.out hb); clear hb)
  refine ⟨_, rfl, ?_⟩
  refine hK.out _ _ ⟨(blk_cell BK10.out 0).trans rfl, (blk_cell BK10.out 1).trans rfl, (blk_cell BK3.out 0).trans rfl, (blk_cell BK3.out 1).trans rfl⟩ (fun hHeld => ?_)
  clear hK K
  refine zn 45 ?_
  refine zh 3 46 Try.func8 #[.agg #[.slice Ao1_0 l0_0.length co1_0, .slice Ao1_1 l0_1.length co1_1], .agg #[.slice Ao2_0 l0_0.length co2_0, .slice Ao2_1 l0_1.length co2_1]] (fun K hK => ?_)
  (refine (laws_eqSpace.calls k4 _ _ l0_0 _ _ l0_1 _ _ l0_0 _ _ l0_1 true _ ?side1 ?side2 ?side3 ?side4 ?side5 ?side6 ?side7 ?side8 H4.out).mono ?_; (case side1 => exact zC (Kd.S_reads' HO1_0.out).2.2); (case side2 => exact (Kd.S_reads' HO1_0.out).2.1); (case side3 => exact zC (Kd.R_reads' HO1_1.out).2.2); (case side4 => exact (Kd.R_reads' HO1_1.out).2.1); (case side5 => exact zC (Kd.S_reads' HO2_0.out).2.2); (case side6 => exact (Kd.S_reads' HO2_0.out).2.1); (case side7 => exact zC (Kd.R_reads' HO2_1.out).2.2); (case side8 => exact (Kd.R_reads' HO2_1.out).2.1); clear HO1_0 HO1_1; clear HO2_0 HO2_1; rintro e w11 ⟨rfl, hb⟩; replace BK3 := uKb BK3 hb; replace BK10 := uKb BK10 hb; have HS11 := zM hb.size; replace HB := zM (below_step HB.out hb); clear hb)
  refine ⟨_, rfl, ?_⟩
  refine hK.out _ _ ⟨(blk_cell BK10.out 0).trans rfl, (blk_cell BK10.out 1).trans rfl, (blk_cell BK3.out 0).trans rfl, (blk_cell BK3.out 1).trans rfl⟩ (fun hHeld => ?_)
  clear hK K
  refine zn 46 ?_
  refine zq 4 47 ?_
  refine zx ?_
  replace hc3_0 := zy BK3 0
  replace hf3_0 := blk_frozen BK3.out 0
  replace hc3_1 := zy BK3 1
  replace hf3_1 := blk_frozen BK3.out 1
  replace hc10_0 := zy BK10 0
  replace hf10_0 := blk_frozen BK10.out 0
  replace hc10_1 := zy BK10 1
  replace hf10_1 := blk_frozen BK10.out 1
  go_wp2
  go_ret
  exact ⟨rfl, HB.out⟩
end Go.Proofs.Ytopgbijegnnjbaa.P
namespace Go.Proofs.Ytopgbijegnnjbaa.P
open Go.RowKit Go.Proofs.YtopgbijegnnjbaaW.PrintWords Go.Proofs.YtopgbijegnnjbaaW.PrintLast Go.Proofs.YtopgbijegnnjbaaW.PrintMore
set_option linter.unusedVariables false
set_option linter.unusedSimpArgs false

def free (l : List Bool) : Nat := l.countP fun x => !x
def symZ (z : List (List Int)) : Prop := ∀ i j, 0 ≤ i → i < (z.length : Int) → 0 ≤ j → j < (z.length : Int) → j ∈ rd_L1 z i → i ∈ rd_L1 z j
section
variable {z : List (List Int)} (hn : z.length ≤ 1048576)
include hn
variable (hz : okZ z) (hr : ∀ i, (rd_L1 z i).length ≤ 1048576)
include hz hr
end
section
variable {z : List (List Int)} (hn : z.length ≤ 1048576) (hz : okZ z) (hr : ∀ i, (rd_L1 z i).length ≤ 1048576) (hs : symZ z)
include hn hz hr hs
end
end Go.Proofs.Ytopgbijegnnjbaa.P
namespace Go.Proofs.Ytopgbijegnnjbaa.P
open Go.RowKit Go.Proofs.YtopgbijegnnjbaaW.PrintWords Go.Proofs.YtopgbijegnnjbaaW.PrintLast Go.Proofs.YtopgbijegnnjbaaW.PrintMore
set_option linter.unusedVariables false
set_option linter.unusedSimpArgs false

theorem rowL_mem (e : List PrT) (i j : Int) : j ∈ rowL e i ↔ ∃ p ∈ e, (p.f0 = i ∧ p.f1 = j) ∨ (p.f0 ≠ i ∧ p.f1 = i ∧ p.f0 = j) := by
  unfold rowL
  rw [List.mem_filterMap]
  refine exists_congr fun p => and_congr_right fun _ => ?_
  unfold pickL
  by_cases c0 : p.f0 = i
  · rw [if_pos c0]; simp [c0]
  · rw [if_neg c0]
    by_cases c1 : p.f1 = i
    · rw [if_pos c1]; simp [c0, c1]
    · rw [if_neg c1]; simp [c0, c1]
section
variable (l : List (List Int)) (e : List PrT) (hm : modS l e) (hg : goodP (l.length : Int) none e = true)
include hm hg
theorem roadsL_ok : okZ (roadsL l e) := by
  have _hu := hm
  have ha := goodP_all (l.length : Int) e none hg
  intro i h0 h1 j hj
  rw [roadsL_len] at h1 ⊢
  unfold roadsL at hj
  rw [rowsOf_rd _ h0 h1, rowL_mem] at hj
  obtain ⟨p, hp, h⟩ := hj
  have := ha p hp
  omega
theorem roadsL_row (i : Int) : (rd_L1 (roadsL l e) i).length ≤ 1048576 := by
  have _hu := hg
  unfold rd_L1
  rw [List.getD_eq_getElem?_getD]
  cases h : (roadsL l e)[i.toNat]? with
  | none => exact Nat.zero_le _
  | some s =>
    have hs := List.mem_of_getElem? h
    unfold roadsL rowsOf at hs
    obtain ⟨q, _, rfl⟩ := List.mem_map.1 hs
    exact Nat.le_trans (rowL_le _ _) hm.2.2
end
end Go.Proofs.Ytopgbijegnnjbaa.P
namespace Go.Proofs.Ytopgbijegnnjbaa.P
open Go.RowKit Go.Proofs.YtopgbijegnnjbaaW.PrintWords Go.Proofs.YtopgbijegnnjbaaW.PrintLast Go.Proofs.YtopgbijegnnjbaaW.PrintMore
set_option linter.unusedVariables false
set_option linter.unusedSimpArgs false

theorem place_at (n : Nat) (hn : n ≤ 1048576) (i : Int) : wrap64 ((n : Int) - 1) = (n : Int) - 1 := by unfold wrap64; omega
theorem l2Place_ev (l : List (List Int)) (e : List PrT) (hm : modS l e) (i : Int) : Ev (fun k => spec_l2Place.f k l e i) (okS l e && (decide (0 ≤ i) && decide (i ≤ (l.length : Int) - 1))) := by
  unfold spec_l2Place.f
  refine Ev.bind (l2Space_ev l e hm) ?_
  cases h : okS l e with
  | true =>
    refine Ev.pos rfl (Ev.bindo (in_at _ _ _) ?_)
    rw [place_at l.length hm.1 i, Bool.true_and]
    exact Ev.now _
  | false => exact Ev.neg (by decide) (Ev.now _)
theorem isPlace_at (l : List (List Int)) (e : List PrT) (hm : modS l e) (i : Int) : impl_Space_isPlace.f l e i = some (decide (0 ≤ i) && decide (i ≤ (l.length : Int) - 1)) := by
  unfold impl_Space_isPlace.f
  rw [place_at l.length hm.1 i, between_at, Option.bind_some]
end Go.Proofs.Ytopgbijegnnjbaa.P
namespace Go.Proofs.Ytopgbijegnnjbaa.P
open Go.RowKit Go.Proofs.YtopgbijegnnjbaaW.PrintWords Go.Proofs.YtopgbijegnnjbaaW.PrintLast Go.Proofs.YtopgbijegnnjbaaW.PrintMore
set_option linter.unusedVariables false
set_option linter.unusedSimpArgs false
theorem least_atC (a : Int) : spec_l1Least.f a 1000000 = some (least 1000000 a) := by
  unfold spec_l1Least.f least
  by_cases h : a < 1000000
  · rw [if_pos h, if_pos h]
  · rw [if_neg h, if_neg h]
theorem drop_foldl {α β : Type} (f : β → α → β) (l : List α) (m : Nat) (h : m < l.length) (b : β) : (l.drop m).foldl f b = (l.drop (m + 1)).foldl f (f b l[m]) := by
  rw [List.drop_eq_getElem_cons h, List.foldl_cons]
/-- The places that are reached, in their order. -/
def reachedF (far : List Int) (m : Nat) : List Int := ((List.range m).filter (fun (i : Nat) => decide (0 ≤ rd far (i : Int)))).map (fun (i : Nat) => (i : Int))
theorem reachedF_mem (far : List Int) (m : Nat) (x : Int) : x ∈ reachedF far m ↔ (0 ≤ x ∧ x < (m : Int)) ∧ 0 ≤ rd far x := by
  unfold reachedF
  rw [List.mem_map]
  constructor
  · rintro ⟨i, hi, rfl⟩
    rw [List.mem_filter, List.mem_range, decide_eq_true_eq] at hi
    exact ⟨by omega, hi.2⟩
  · rintro ⟨h1, h2⟩
    refine ⟨x.toNat, ?_, by omega⟩
    rw [List.mem_filter, List.mem_range, decide_eq_true_eq]
    exact ⟨by omega, by rw [show ((x.toNat : Nat) : Int) = x by omega]; exact h2⟩
theorem reachedF_nodup (far : List Int) (m : Nat) : (reachedF far m).Nodup := by
  unfold reachedF
  rw [List.nodup_iff_pairwise_ne, List.pairwise_map]
  refine List.Pairwise.imp ?_ (List.Pairwise.sublist List.filter_sublist List.pairwise_lt_range)
  intro a b h
  omega
theorem reachedF_len (far : List Int) (m : Nat) : (reachedF far m).length ≤ m := by
  unfold reachedF
  rw [List.length_map]
  refine Nat.le_trans (List.length_filter_le _ _) ?_
  rw [List.length_range]; exact Nat.le_refl _
theorem reachedF_succ (far : List Int) (m : Nat) : reachedF far (m + 1) = if rd far (m : Int) ≥ 0 then reachedF far m ++ [(m : Int)] else reachedF far m := by
  unfold reachedF
  rw [List.range_succ, List.filter_append, List.map_append]
  by_cases c : rd far (m : Int) ≥ 0
  · rw [if_pos c, List.filter_cons_of_pos (by simpa using c)]; rfl
  · rw [if_neg c, List.filter_cons_of_neg (by simpa using c)]; simp
section
variable {z : List (List Int)} {far : List Int} (hn : z.length ≤ 1048576) (hr : ∀ i, (rd_L1 z i).length ≤ 1048576) (hf : far.length = z.length) (hfb : ∀ k, rd far k ≤ 1048575)
include hn hr hf hfb
/-- The reference's row of a place of the distance that is at hand. -/
theorem specRow (t : Int) (d a : Nat) (ha : a < z.length) (hd : rd far (a : Int) = (d : Int)) (hrow : ∀ b ∈ rd_L1 z (a : Int), 0 ≤ b ∧ b < (z.length : Int)) {R : Int × Bool} (e : Nat) : ∀ (m : Nat) (many : List Int), (rd_L1 z (a : Int)).length - m = e → m ≤ (rd_L1 z (a : Int)).length → many.length = z.length → bndM 1000000 many →
    (bndM 1000000 (((rd_L1 z (a : Int)).drop m).foldl (stepN far 1000000 (a : Int)) many) → Ev (fun k => spec_CountShortest.l1 k t z far (((rd_L1 z (a : Int)).drop m).foldl (stepN far 1000000 (a : Int)) many) (d : Int) (((a + 1 : Nat)) : Int)) R) → Ev (fun k => spec_CountShortest.l2 k t z far many (d : Int) (a : Int) (m : Int)) R := by
  have hda := hfb (a : Int)
  have hrl := hr (a : Int)
  have hwa := Aside0.mk (show wrap64 ((a : Int) + 1) = ((a + 1 : Nat) : Int) by unfold wrap64; omega)
  have hwd := Aside0.mk (show wrap64 ((d : Int) + 1) = (d : Int) + 1 by unfold wrap64; omega)
  induction e with
  | zero =>
    intro m many h0 h1 h2 h3 h4
    rw [List.drop_eq_nil_of_le (by omega)] at h4
    refine Ev.step (fun k => by rw [spec_CountShortest.l2]) ?_
    refine Ev.pos (by omega) ?_
    refine Ev.pos (by omega) ?_
    refine Ev.neg (by omega) ?_
    refine Ev.step (fun k => by rw [spec_CountShortest.j4]) ?_
    refine Ev.neg (by decide) ?_
    rw [hwa.out]
    exact h4 h3
  | succ e ih =>
    intro m many h0 h1 h2 h3 h4
    have hm : m < (rd_L1 z (a : Int)).length := by omega
    have hb := hrow _ (List.getElem_mem hm)
    have hwm := Aside0.mk (wrap_up hm (by omega))
    rw [drop_foldl _ _ _ hm] at h4
    have ih' := ih (m + 1) (stepN far 1000000 (a : Int) many (rd_L1 z (a : Int))[m]) (by omega) (by omega) (by rw [stepN_len]; exact h2) (bndM_step far 1000000 _ _ many h3) h4
    refine Ev.step (fun k => by rw [spec_CountShortest.l2]) ?_
    refine Ev.pos (by omega) ?_
    refine Ev.pos (by omega) ?_
    refine Ev.pos (by omega) ?_
    refine Ev.pos (by omega) ?_
    rw [hd]
    refine Ev.step (fun k => by rw [spec_CountShortest.j4]) ?_
    refine Ev.pos (by simp) ?_
    refine Ev.pos (by omega) ?_
    refine Ev.pos (by omega) ?_
    refine Ev.pos (by omega) ?_
    refine Ev.pos (by omega) ?_
    rw [rd_at _ m hm]
    generalize hbe : (rd_L1 z (a : Int))[m] = b at hb ih'
    refine Ev.pos hb.1 ?_
    refine Ev.pos (by omega) ?_
    rw [hwd.out, hwm.out]
    by_cases c : rd far b = (d : Int) + 1
    · refine Ev.pos c ?_
      refine Ev.pos (by omega) ?_
      refine Ev.pos (by omega) ?_
      have h5 := h3 b
      have h6 := h3 (a : Int)
      have hw := Aside0.mk (show wrap64 (rd many b + rd many (a : Int)) = rd many b + rd many (a : Int) by unfold wrap64; omega)
      rw [hw.out]
      refine Ev.bindo (least_atC _) ?_
      have es : stepN far 1000000 (a : Int) many b = many.set b.toNat (least 1000000 (rd many b + rd many (a : Int))) := by
        unfold stepN; rw [if_pos (by rw [hd]; exact c)]
      rw [es] at ih'
      exact ih'
    · refine Ev.neg c ?_
      have es : stepN far 1000000 (a : Int) many b = many := by
        unfold stepN; rw [if_neg (by rw [hd]; exact c)]
      rw [es] at ih'
      exact ih'
/-- A place of another distance. -/
theorem specSkip (t : Int) (d a : Nat) (ha : a < z.length) (hd : rd far (a : Int) ≠ (d : Int)) {R : Int × Bool} (many : List Int) (h : Ev (fun k => spec_CountShortest.l1 k t z far many (d : Int) (((a + 1 : Nat)) : Int)) R) : Ev (fun k => spec_CountShortest.l2 k t z far many (d : Int) (a : Int) 0) R := by
  have hwa := Aside0.mk (show wrap64 ((a : Int) + 1) = ((a + 1 : Nat) : Int) by unfold wrap64; omega)
  have hrl := hr (a : Int)
  have hda := hfb (a : Int)
  refine Ev.step (fun k => by rw [spec_CountShortest.l2]) ?_
  refine Ev.pos (by omega) ?_
  refine Ev.pos (by omega) ?_
  have hj : Ev (fun k => spec_CountShortest.j4 k t z far many (d : Int) (a : Int) 0 false) R := by
    refine Ev.step (fun k => by rw [spec_CountShortest.j4]) ?_
    refine Ev.neg (by decide) ?_
    rw [hwa.out]
    exact h
  by_cases c : 0 < ((rd_L1 z (a : Int)).length : Int)
  · refine Ev.pos c ?_
    refine Ev.pos (by omega) ?_
    rw [show (rd far (a : Int) == (d : Int)) = false from by simpa using hd]
    exact hj
  · refine Ev.neg c ?_
    exact hj
/-- What the reference has taken: the places below a distance, and those of that distance up to one. -/
def takenAt (far : List Int) (n d a : Nat) (P : List Int) : Prop := ∀ u : Nat, u < n → ((u : Int) ∈ P ↔ 0 ≤ rd far (u : Int) ∧ (rd far (u : Int) < (d : Int) ∨ (rd far (u : Int) = (d : Int) ∧ u < a)))
theorem specCount (s : Int) (hz : okZ z) (hnd : ∀ i, 0 ≤ i → i < (z.length : Int) → (rd_L1 z i).Nodup) (hs : ∀ v, 0 ≤ v → v < (z.length : Int) → rd far v = 0 → v = s) (t : Int) (ht0 : 0 ≤ t) (ht1 : t < (z.length : Int)) (htf : 0 ≤ rd far t) (g : Nat) : ∀ (d : Nat) (P many : List Int), (rd far t).toNat - d = g → d ≤ (rd far t).toNat → takenAt far z.length d 0 P → many.length = z.length → bndM 1000000 many → (∀ v, 0 ≤ v → v < (z.length : Int) → rd many v = manyAt z far s 1000000 P v) →
    Ev (fun k => spec_CountShortest.l0 k t z far many (d : Int)) (waysN z far s 1000000 t, true) := by
  have htb := hfb t
  induction g with
  | zero =>
    intro d P many h0 h1 h2 h3 h4 h5
    refine Ev.step (fun k => by rw [spec_CountShortest.l0]) ?_
    refine Ev.pos ht0 ?_
    refine Ev.pos (by omega) ?_
    refine Ev.neg (by omega) ?_
    refine Ev.pos (by omega) ?_
    rw [h5 t ht0 ht1, manyAt_end z far s 1000000 hs P t ht0 ht1 htf (fun u hu hp => (h2 u hu).2 ⟨hp.2.1, by have := hp.2.2; omega⟩)]
    exact Ev.now _
  | succ g ih =>
    intro d P many h0 h1 h2 h3 h4 h5
    have hwd := Aside0.mk (show wrap64 ((d : Int) + 1) = ((d + 1 : Nat) : Int) by unfold wrap64; omega)
    have inner : ∀ (g2 a : Nat) (P many : List Int), z.length - a = g2 → a ≤ z.length → takenAt far z.length d a P → many.length = z.length → bndM 1000000 many → (∀ v, 0 ≤ v → v < (z.length : Int) → rd many v = manyAt z far s 1000000 P v) →
        Ev (fun k => spec_CountShortest.l1 k t z far many (d : Int) (a : Int)) (waysN z far s 1000000 t, true) := by
      intro g2
      induction g2 with
      | zero =>
        intro a P many k0 k1 k2 k3 k4 k5
        refine Ev.step (fun k => by rw [spec_CountShortest.l1]) ?_
        refine Ev.neg (by omega) ?_
        rw [hwd.out]
        refine ih (d + 1) P many (by omega) (by omega) (fun u hu => ?_) k3 k4 k5
        rw [k2 u hu]
        constructor
        · rintro ⟨p, q⟩; exact ⟨p, by omega⟩
        · rintro ⟨p, q⟩; exact ⟨p, by omega⟩
      | succ g2 ih2 =>
        intro a P many k0 k1 k2 k3 k4 k5
        have ha : a < z.length := by omega
        refine Ev.step (fun k => by rw [spec_CountShortest.l1]) ?_
        refine Ev.pos (by omega) ?_
        by_cases c : rd far (a : Int) = (d : Int)
        · have hnP : (a : Int) ∉ P := fun h => by have := (k2 a ha).1 h; omega
          have hpt := place_taken z far s 1000000 (by omega) hz hnd hs P a ha (by omega) hnP (fun u' hu' hp => (k2 u' hu').2 ⟨hp.2.1, by have := hp.2.2; omega⟩) many k3 k5
          have hsr := specRow hn hr hf hfb t d a ha c (hz _ (by omega) (by omega)) (R := (waysN z far s 1000000 t, true)) _ 0 many rfl (Nat.zero_le _) k3 k4
          simp only [List.drop_zero, Int.natCast_zero] at hsr
          refine hsr (fun hb => ?_)
          refine ih2 (a + 1) (P ++ [(a : Int)]) _ (by omega) (by omega) (fun u hu => ?_) hpt.1 hb hpt.2
          rw [List.mem_append, List.mem_singleton, k2 u hu]
          constructor
          · rintro (⟨p, q⟩ | q)
            · exact ⟨p, by omega⟩
            · have : u = a := by omega
              subst this
              exact ⟨by omega, .inr ⟨c, by omega⟩⟩
          · rintro ⟨p, q⟩
            by_cases hua : u = a
            · exact .inr (by omega)
            · exact .inl ⟨p, by omega⟩
        · refine specSkip hn hr hf hfb t d a ha c many ?_
          refine ih2 (a + 1) P many (by omega) (by omega) (fun u hu => ?_) k3 k4 k5
          rw [k2 u hu]
          constructor
          · rintro ⟨p, q⟩; exact ⟨p, by omega⟩
          · rintro ⟨p, q⟩
            by_cases hua : u = a
            · subst hua; exact ⟨p, by omega⟩
            · exact ⟨p, by omega⟩
    refine Ev.step (fun k => by rw [spec_CountShortest.l0]) ?_
    refine Ev.pos ht0 ?_
    refine Ev.pos (by omega) ?_
    refine Ev.pos (by omega) ?_
    refine inner z.length 0 P many (Nat.sub_zero _) (Nat.zero_le _) (fun u hu => ?_) h3 h4 h5
    rw [h2 u hu]
/-- The program's row of a place. -/
theorem implRow (t : Int) (u : Int) (hu0 : 0 ≤ u) (hu1 : u < (z.length : Int)) (hrow : ∀ b ∈ rd_L1 z u, 0 ≤ b ∧ b < (z.length : Int)) (hfu : 0 ≤ rd far u) (p : List Int) (N i : Int) {R : Int × Bool} (e : Nat) : ∀ (m : Nat) (many : List Int), (rd_L1 z u).length - m = e → m ≤ (rd_L1 z u).length → many.length = z.length → bndM 1000000 many →
    (bndM 1000000 (((rd_L1 z u).drop m).foldl (stepN far 1000000 u) many) → Ev (fun k => impl_CountShortest.l1 k t z far (((rd_L1 z u).drop m).foldl (stepN far 1000000 u) many) p N (wrap64 (i + 1))) R) → Ev (fun k => impl_CountShortest.l2 k t z far many u p N i (rd_L1 z u) ((rd_L1 z u).length : Int) (m : Int)) R := by
  have _hu := hn
  have hda := hfb u
  have hrl := hr u
  have hwd := Aside0.mk (show wrap64 (rd far u + 1) = rd far u + 1 by unfold wrap64; omega)
  induction e with
  | zero =>
    intro m many h0 h1 h2 h3 h4
    rw [List.drop_eq_nil_of_le (by omega)] at h4
    refine Ev.step (fun k => by rw [impl_CountShortest.l2]) ?_
    refine Ev.neg (by omega) ?_
    exact h4 h3
  | succ e ih =>
    intro m many h0 h1 h2 h3 h4
    have hm : m < (rd_L1 z u).length := by omega
    have hb := hrow _ (List.getElem_mem hm)
    have hwm := Aside0.mk (wrap_up hm (by omega))
    rw [drop_foldl _ _ _ hm] at h4
    have ih' := ih (m + 1) (stepN far 1000000 u many (rd_L1 z u)[m]) (by omega) (by omega) (by rw [stepN_len]; exact h2) (bndM_step far 1000000 _ _ many h3) h4
    refine Ev.step (fun k => by rw [impl_CountShortest.l2]) ?_
    refine Ev.pos (by omega) ?_
    refine Ev.pos (by omega) ?_
    refine Ev.pos (by omega) ?_
    rw [rd_at _ m hm]
    generalize hbe : (rd_L1 z u)[m] = b at hb ih'
    refine Ev.pos hb.1 ?_
    refine Ev.pos (by omega) ?_
    refine Ev.pos hu0 ?_
    refine Ev.pos (by omega) ?_
    rw [hwd.out, hwm.out]
    by_cases c : rd far b = rd far u + 1
    · refine Ev.pos c ?_
      refine Ev.pos (by omega) ?_
      refine Ev.pos (by omega) ?_
      have h5 := h3 b
      have h6 := h3 u
      have hw := Aside0.mk (show wrap64 (rd many b + rd many u) = rd many b + rd many u by unfold wrap64; omega)
      rw [hw.out]
      have es : stepN far 1000000 u many b = many.set b.toNat (mn 1000000 (rd many b + rd many u)) := by
        unfold stepN; rw [if_pos c]; rfl
      rw [es] at ih'
      exact ih'
    · refine Ev.neg c ?_
      have es : stepN far 1000000 u many b = many := by
        unfold stepN; rw [if_neg c]
      rw [es] at ih'
      exact ih'
/-- The program's places, in whatever order. -/
theorem implWalk (hz : okZ z) (t : Int) (ht0 : 0 ≤ t) (ht1 : t < (z.length : Int)) (p : List Int) (hp : ∀ u ∈ p, 0 ≤ u ∧ u < (z.length : Int) ∧ 0 ≤ rd far u) (hpl : p.length ≤ 1048576) (e : Nat) : ∀ (m : Nat) (many : List Int), p.length - m = e → m ≤ p.length → many.length = z.length → bndM 1000000 many →
    Ev (fun k => impl_CountShortest.l1 k t z far many p (p.length : Int) (m : Int)) (rd ((p.drop m).foldl (fun m u => (rd_L1 z u).foldl (stepN far 1000000 u) m) many) t, true) := by
  have hfl : ∀ (u : Int) (row many : List Int), (row.foldl (stepN far 1000000 u) many).length = many.length := by
    intro u row
    induction row with
    | nil => intro many; rfl
    | cons b row ih => intro many; rw [List.foldl_cons, ih, stepN_len]
  induction e with
  | zero =>
    intro m many h0 h1 h2 h3
    rw [List.drop_eq_nil_of_le (by omega)]
    refine Ev.step (fun k => by rw [impl_CountShortest.l1]) ?_
    refine Ev.neg (by omega) ?_
    refine Ev.pos ht0 ?_
    refine Ev.pos (by omega) ?_
    exact Ev.now _
  | succ e ih =>
    intro m many h0 h1 h2 h3
    have hm : m < p.length := by omega
    have hu := hp _ (List.getElem_mem hm)
    rw [drop_foldl _ _ _ hm]
    refine Ev.step (fun k => by rw [impl_CountShortest.l1]) ?_
    refine Ev.pos (by omega) ?_
    refine Ev.pos (by omega) ?_
    refine Ev.pos (by omega) ?_
    rw [rd_at p m hm]
    generalize hue : p[m] = u at hu
    refine Ev.pos hu.1 ?_
    refine Ev.pos hu.2.1 ?_
    have h := implRow hn hr hf hfb t u hu.1 hu.2.1 (hz u hu.1 hu.2.1) hu.2.2 p (p.length : Int) (m : Int) (R := (rd ((p.drop (m + 1)).foldl (fun m u => (rd_L1 z u).foldl (stepN far 1000000 u) m) ((rd_L1 z u).foldl (stepN far 1000000 u) many)) t, true)) _ 0 many rfl (Nat.zero_le _) h2 h3
    simp only [List.drop_zero, Int.natCast_zero] at h
    refine h (fun hb => ?_)
    rw [wrap_up hm (by omega)]
    exact ih (m + 1) _ (by omega) (by omega) (by rw [hfl]; exact h2) hb
theorem implCount (st : List (List Int)) (ee : List S50) (hst : st.length = z.length) (s : Int) (hs0 : 0 ≤ s) (hs1 : s < (z.length : Int)) (hfs : rd far s = 0) (hz : okZ z) (hnd : ∀ i, 0 ≤ i → i < (z.length : Int) → (rd_L1 z i).Nodup) (hs : ∀ v, 0 ≤ v → v < (z.length : Int) → rd far v = 0 → v = s) (t : Int) (ht0 : 0 ≤ t) (ht1 : t < (z.length : Int)) (htf : 0 ≤ rd far t) (g : Nat) : ∀ (m : Nat), far.length - m = g → m ≤ far.length →
    Ev (fun k => impl_CountShortest.l0 k s t z far (reachedF far m) far (far.length : Int) (m : Int) st ee) (waysN z far s 1000000 t, true) := by
  induction g with
  | zero =>
    intro m h0 h1
    have hm : m = z.length := by omega
    subst hm
    refine Ev.step (fun k => by rw [impl_CountShortest.l0]) ?_
    refine Ev.neg (by omega) ?_
    refine Ev.pos (by omega) ?_
    rw [Int.toNat_natCast, hst]
    refine Ev.pos (by omega) ?_
    refine Ev.bindo rfl ?_
    refine Ev.pos hs0 ?_
    refine Ev.pos (by rw [List.length_replicate]; exact hs1) ?_
    have hl := reachedF_len far z.length
    refine ⟨0, fun k _ => ?_⟩
    unfold anyOrder
    rw [if_pos]
    refine ⟨⟨by omega, fun x hx => ?_⟩, fun p hp hpw => ?_⟩
    · have := (reachedF_mem far z.length x).1 hx
      rw [hf]; exact this.1
    · have hpm : ∀ u ∈ p, 0 ≤ u ∧ u < (z.length : Int) ∧ 0 ≤ rd far u := fun u hu => by
        have := (reachedF_mem far z.length u).1 (hp.mem_iff.1 hu)
        exact ⟨this.1.1, this.1.2, this.2⟩
      have hpl : p.length ≤ 1048576 := by rw [hp.length_eq]; omega
      have hl0 : ((List.replicate z.length (0 : Int)).set s.toNat 1).length = z.length := by rw [List.length_set, List.length_replicate]
      have hw := implWalk hn hr hf hfb hz t ht0 ht1 p hpm hpl _ 0 ((List.replicate z.length 0).set s.toNat 1) rfl (Nat.zero_le _) hl0 (bndM_init 1000000 (by omega) z.length s)
      simp only [List.drop_zero, Int.natCast_zero] at hw
      have hcw := count_walk z far s 1000000 (by omega) hz hnd hs p [] ((List.replicate z.length 0).set s.toNat 1) hpm hpw (by rw [List.nil_append]; exact hp.nodup_iff.2 (reachedF_nodup far z.length)) (fun u hu hfu => by rw [List.nil_append]; exact hp.mem_iff.2 ((reachedF_mem far z.length _).2 ⟨by omega, hfu⟩)) hl0 (manyAt_nil z far s 1000000 (by omega) hfs hs0 hs1)
      rw [hcw.2 t ht0 ht1, manyAt_end z far s 1000000 hs _ t ht0 ht1 htf (fun u hu hpr => by rw [List.nil_append]; exact hp.mem_iff.2 ((reachedF_mem far z.length _).2 ⟨by omega, hpr.2.1⟩))] at hw
      obtain ⟨K, hK⟩ := hw
      exact ⟨K, hK K (Nat.le_refl _)⟩
  | succ g ih =>
    intro m h0 h1
    have hm : m < far.length := by omega
    have hl := reachedF_len far m
    have ih' := ih (m + 1) (by omega) (by omega)
    rw [reachedF_succ, ← wrap_up hm (by omega)] at ih'
    refine Ev.step (fun k => by rw [impl_CountShortest.l0]) ?_
    refine Ev.pos (by omega) ?_
    refine Ev.pos (by omega) ?_
    refine Ev.pos (by omega) ?_
    by_cases c : rd far (m : Int) ≥ 0
    · rw [if_pos c] at ih'
      refine Ev.pos c ?_
      refine Ev.pos (by omega) ?_
      exact ih'
    · rw [if_neg c] at ih'
      refine Ev.neg c ?_
      exact ih'
end
theorem Both_FnExactCountShortest (l0_0 : List (List Int)) (l0_1 : List S50) (a1 : Int) (a2 : Int) (w0_0 : FitLL l0_0) (w0_1 : FitP l0_1) (w1 : (Lit.int .i64 a1).wf = true) (w2 : (Lit.int .i64 a2).wf = true) (hm0 : modS l0_0 l0_1) : ∃ (q0 : Int) (q1 : Bool), Ev (fun k => spec_CountShortest.f k l0_0 l0_1 a1 a2) (q0, q1) ∧ Ev (fun k => impl_CountShortest.f k l0_0 l0_1 a1 a2) (q0, q1) := by
  have hs1 := l2Place_ev l0_0 l0_1 hm0 a1
  have hs2 := l2Place_ev l0_0 l0_1 hm0 a2
  have hi1 := isPlace_at l0_0 l0_1 hm0 a1
  have hi2 := isPlace_at l0_0 l0_1 hm0 a2
  by_cases h : okS l0_0 l0_1 = true
  · have hg := okS_goodL h
    rw [h, Bool.true_and] at hs1 hs2
    by_cases hp : 0 ≤ a1 ∧ a1 ≤ (l0_0.length : Int) - 1
    · rw [decide_eq_true hp.1, decide_eq_true hp.2, Bool.true_and] at hs1 hi1
      by_cases hp2 : 0 ≤ a2 ∧ a2 ≤ (l0_0.length : Int) - 1
      · rw [decide_eq_true hp2.1, decide_eq_true hp2.2, Bool.true_and] at hs2 hi2
        have hlen := roadsL_len l0_0 l0_1
        have hz := roadsL_ok l0_0 l0_1 hm0 hg.2
        have hr := roadsL_row l0_0 l0_1 hm0 hg.2
        have hnd : ∀ i, 0 ≤ i → i < ((roadsL l0_0 l0_1).length : Int) → (rd_L1 (roadsL l0_0 l0_1) i).Nodup := fun i i0 i1 => by
          have ha := goodP_all (l0_0.length : Int) l0_1 none hg.2
          have hpw := (goodP_pw (l0_0.length : Int) l0_1 none hg.2).1
          unfold roadsL
          rw [rowsOf_rd _ i0 (by omega), List.nodup_iff_pairwise_ne]
          exact (rowL_rising i l0_1 (fun p hp => (ha p hp).2.1) hpw).imp (fun {a b} h => by omega)
        obtain ⟨D, e1, e2, e3, e4, e5, e6, e7, e8, e9⟩ := spread_both hz (by omega) hr a1 hp.1 (by omega)
        have hsD : ∀ v, 0 ≤ v → v < ((roadsL l0_0 l0_1).length : Int) → rd D v = 0 → v = a1 := fun v v0 v1 hv => by
          rcases e9 v v0 v1 (by omega) with h | ⟨p, _, _, _, h1, h2⟩
          · exact h
          · omega
        by_cases c : rd D a2 < 0
        · refine ⟨0, false, ?_, ?_⟩
          · unfold spec_CountShortest.f
            refine Ev.bind hs1 ?_
            refine Ev.pos rfl ?_
            refine Ev.bind hs2 ?_
            refine Ev.step (fun k => by rw [spec_CountShortest.j0]) ?_
            refine Ev.neg (by decide) ?_
            refine Ev.bind (lists_ev l0_0 l0_1 hm0 hg.2) ?_
            refine Ev.bind e2 ?_
            refine Ev.pos hp2.1 ?_
            refine Ev.pos (by omega) ?_
            exact Ev.pos c (Ev.now _)
          · unfold impl_CountShortest.f
            refine Ev.bind (impl_IsSpace_ev l0_0 l0_1 hm0) ?_
            rw [h]
            refine Ev.pos rfl ?_
            refine Ev.bindo hi1 ?_
            refine Ev.pos rfl ?_
            refine Ev.bindo hi2 ?_
            refine Ev.step (fun k => by rw [impl_CountShortest.j0]) ?_
            refine Ev.neg (by decide) ?_
            refine Ev.bind (roads_ev l0_0 l0_1 hm0 hg.2) ?_
            refine Ev.bind e1 ?_
            refine Ev.pos hp2.1 ?_
            refine Ev.pos (by omega) ?_
            exact Ev.pos c (Ev.now _)
        · refine ⟨waysN (roadsL l0_0 l0_1) D a1 1000000 a2, true, ?_, ?_⟩
          · unfold spec_CountShortest.f
            refine Ev.bind hs1 ?_
            refine Ev.pos rfl ?_
            refine Ev.bind hs2 ?_
            refine Ev.step (fun k => by rw [spec_CountShortest.j0]) ?_
            refine Ev.neg (by decide) ?_
            refine Ev.bind (lists_ev l0_0 l0_1 hm0 hg.2) ?_
            refine Ev.bind e2 ?_
            refine Ev.pos hp2.1 ?_
            refine Ev.pos (by omega) ?_
            refine Ev.neg c ?_
            refine Ev.pos (by omega) ?_
            rw [Int.toNat_natCast]
            refine Ev.pos (by omega) ?_
            refine Ev.bindo rfl ?_
            refine Ev.pos hp.1 ?_
            refine Ev.pos (by rw [List.length_replicate]; omega) ?_
            exact specCount (by omega) hr e3 e4 a1 hz hnd hsD a2 hp2.1 (by omega) (by omega) _ 0 [] _ rfl (Nat.zero_le _) (fun u hu => by
              constructor
              · intro h; cases h
              · rintro ⟨h1, h2⟩; omega) (by rw [List.length_set, List.length_replicate]) (bndM_init 1000000 (by omega) _ a1) (manyAt_nil _ D a1 1000000 (by omega) e8 hp.1 (by omega))
          · unfold impl_CountShortest.f
            refine Ev.bind (impl_IsSpace_ev l0_0 l0_1 hm0) ?_
            rw [h]
            refine Ev.pos rfl ?_
            refine Ev.bindo hi1 ?_
            refine Ev.pos rfl ?_
            refine Ev.bindo hi2 ?_
            refine Ev.step (fun k => by rw [impl_CountShortest.j0]) ?_
            refine Ev.neg (by decide) ?_
            refine Ev.bind (roads_ev l0_0 l0_1 hm0 hg.2) ?_
            refine Ev.bind e1 ?_
            refine Ev.pos hp2.1 ?_
            refine Ev.pos (by omega) ?_
            refine Ev.neg c ?_
            exact implCount (by omega) hr e3 e4 l0_0 l0_1 (by omega) a1 hp.1 (by omega) e8 hz hnd hsD a2 hp2.1 (by omega) (by omega) _ 0 rfl (Nat.zero_le _)
      · have hd : (decide (0 ≤ a2) && decide (a2 ≤ (l0_0.length : Int) - 1)) = false := by
          rw [← Bool.not_eq_true, Bool.and_eq_true, decide_eq_true_eq, decide_eq_true_eq]
          exact hp2
        rw [hd] at hs2 hi2
        refine ⟨0, false, ?_, ?_⟩
        · unfold spec_CountShortest.f
          refine Ev.bind hs1 ?_
          refine Ev.pos rfl ?_
          refine Ev.bind hs2 ?_
          refine Ev.step (fun k => by rw [spec_CountShortest.j0]) ?_
          exact Ev.pos rfl (Ev.now _)
        · unfold impl_CountShortest.f
          refine Ev.bind (impl_IsSpace_ev l0_0 l0_1 hm0) ?_
          rw [h]
          refine Ev.pos rfl ?_
          refine Ev.bindo hi1 ?_
          refine Ev.pos rfl ?_
          refine Ev.bindo hi2 ?_
          refine Ev.step (fun k => by rw [impl_CountShortest.j0]) ?_
          exact Ev.pos rfl (Ev.now _)
    · have hd : (decide (0 ≤ a1) && decide (a1 ≤ (l0_0.length : Int) - 1)) = false := by
        rw [← Bool.not_eq_true, Bool.and_eq_true, decide_eq_true_eq, decide_eq_true_eq]
        exact hp
      rw [hd] at hs1 hi1
      refine ⟨0, false, ?_, ?_⟩
      · unfold spec_CountShortest.f
        refine Ev.bind hs1 ?_
        refine Ev.neg (by decide) ?_
        refine Ev.step (fun k => by rw [spec_CountShortest.j0]) ?_
        exact Ev.pos rfl (Ev.now _)
      · unfold impl_CountShortest.f
        refine Ev.bind (impl_IsSpace_ev l0_0 l0_1 hm0) ?_
        rw [h]
        refine Ev.pos rfl ?_
        refine Ev.bindo hi1 ?_
        refine Ev.neg (by decide) ?_
        refine Ev.step (fun k => by rw [impl_CountShortest.j0]) ?_
        exact Ev.pos rfl (Ev.now _)
  · rw [Bool.not_eq_true] at h
    rw [h, Bool.false_and] at hs1
    refine ⟨0, false, ?_, ?_⟩
    · unfold spec_CountShortest.f
      refine Ev.bind hs1 ?_
      refine Ev.neg (by decide) ?_
      refine Ev.step (fun k => by rw [spec_CountShortest.j0]) ?_
      exact Ev.pos rfl (Ev.now _)
    · unfold impl_CountShortest.f
      refine Ev.bind (impl_IsSpace_ev l0_0 l0_1 hm0) ?_
      rw [h]
      refine Ev.neg (by decide) ?_
      refine Ev.step (fun k => by rw [impl_CountShortest.j0]) ?_
      exact Ev.pos rfl (Ev.now _)
end Go.Proofs.Ytopgbijegnnjbaa.P
namespace Go.Proofs.Ytopgbijegnnjbaa.P
open Go.RowKit Go.Proofs.YtopgbijegnnjbaaW.PrintWords Go.Proofs.YtopgbijegnnjbaaW.PrintLast Go.Proofs.YtopgbijegnnjbaaW.PrintMore
set_option linter.unusedVariables false
set_option maxHeartbeats 1000000 in
theorem Law_FnExactCountShortest (A0_0 : Option Addr) (ca0_0 : Nat) (l0_0 : List (List Int)) (A0_1 : Option Addr) (ca0_1 : Nat) (l0_1 : List (S50)) (a1 : Int) (a2 : Int) (w : World) (hr0_0 : Kd.C (Kd.slice 3 (Kd.int .i64)) w A0_0 l0_0.length l0_0) (hc0_0 : l0_0.length ≤ ca0_0) (hr0_1 : Kd.C k50 w A0_1 l0_1.length l0_1) (hc0_1 : l0_1.length ≤ ca0_1) (w0_0 : FitLL l0_0) (w0_1 : FitP l0_1) (w1 : (Lit.int .i64 a1).wf = true) (w2 : (Lit.int .i64 a2).wf = true) :
    Calls Try.prog 3 #[.agg #[.slice A0_0 l0_0.length ca0_0, .slice A0_1 l0_1.length ca0_1], .int .i64 a1, .int .i64 a2] w fun e w' => e = .returned (.bool true) ∧ Below w.heap.size w w' := by
  obtain ⟨t0, e0, m0⟩ := sz_space l0_0 l0_1 w0_0 w0_1.1
  obtain ⟨k0, h0⟩ := Ev.rounds e0
  by_cases c0 : t0 < 0
  · exact laws_FnExactCountShortest.exit0 A0_0 ca0_0 l0_0 A0_1 ca0_1 l0_1 a1 a2 k0 t0 w hr0_0 hc0_0 hr0_1 hc0_1 c0 h0
  have hm0 := m0.resolve_left c0
  obtain ⟨q0, q1, es, ei⟩ := Both_FnExactCountShortest l0_0 l0_1 a1 a2 w0_0 w0_1 w1 w2 hm0
  obtain ⟨k1, h1⟩ := Ev.rounds (toSpace_ev l0_0 l0_1 hm0)
  obtain ⟨k2, h2⟩ := Ev.rounds (es)
  obtain ⟨k3, h3⟩ := Ev.rounds (ei)
  obtain ⟨k4, h4⟩ := Ev.rounds (eqSpace_ev l0_0 l0_1 hm0)
  exact laws_FnExactCountShortest.walk A0_0 ca0_0 l0_0 A0_1 ca0_1 l0_1 a1 a2 k0 k1 k2 k3 k4 t0 q0 q1 w hr0_0 hc0_0 hr0_1 hc0_1 c0 h0 h1 h2 h3 h4 
end Go.Proofs.Ytopgbijegnnjbaa.P
