-- Written by a program of this session (the kit's print, turned: wip/print/patch.py) out of the translation. Not trusted: Lean checks it.
import Derived.Test.YthnojbafclglpaaParityOfG5
import Derived.Test.YthnojbafclglpaaParityOfG6
import Derived.Test.YthnojbafclglpaaParityOfG12
import Derived.Test.YthnojbafclglpaaParityOfG19
import Derived.Test.YthnojbafclglpaaParityOfG20
import Derived.ProofKit
import Derived.OpenShut
import Derived.Deep.Matrix
import Derived.Lib.SmallJoins
import Derived.Test.YthnojbafclglpaaParityOfG7
import Derived.Test.YthnojbafclglpaaParityOfG13
import Derived.Test.YthnojbafclglpaaParityOfG14
import Derived.Test.YthnojbafclglpaaParityOfG8
namespace Go.Proofs.Ythnojbafclglpaa.P
open Go.RowKit Go.Proofs.YthnojbafclglpaaW.PrintWords Go.Proofs.YthnojbafclglpaaW.PrintLast Go.Proofs.YthnojbafclglpaaW.PrintMore
attribute [local go_sem] max2_int min2_int max_two min_two max_three min_three max_four min_four   -- for this text's walks alone
set_option linter.unusedVariables false
set_option linter.unusedSimpArgs false

/-! ### laws_heldIntS: function 28 -/
def laws_heldIntS.l0 : Nat → List Int → Int → Int → Option (Int)
 | 0, _, _, _ => none
 | k + 1, x0, x1, x5 => if x5 < (x0.length : Int) then (if 0 ≤ x5 then (if (rd x0 x5) = x1 then (laws_heldIntS.l0 k x0 (wrap64 (x1 + 1)) (wrap64 (x5 + 1))) else (some (-1))) else (none)) else (some x1)
def laws_heldIntS.f (k : Nat) (l0 : List Int) (a1 : Int) : Option (Int) := laws_heldIntS.l0 k l0 a1 0
set_option maxHeartbeats 8000000 in
set_option maxRecDepth 100000 in
theorem laws_heldIntS.calls (k : Nat) (A0 : Option Addr) (c0 : Nat) (l0 : List Int) (a1 : Int) (r : Int) (w : World) (hr0 : Kd.C (Kd.int .i64) w A0 l0.length l0) (hc0 : l0.length ≤ c0) (h : laws_heldIntS.f k l0 a1 = some r) :
 Calls Try.prog 28 #[.slice A0 l0.length c0, .int .i64 a1] w fun e w' => e = .returned (.int .i64 r) ∧ Drawn0 w w' := by
 have HR0 := Aside0.mk hr0
 have HC0 := Aside0.mk hc0
 clear hr0 hc0
 have H : (laws_heldIntS.l0 k l0 a1 0) = some r := h
 clear h
 have H' := Aside0.mk H
 clear H
 go_enter Try.func28, Try.ntmps28
 go_wp2
 go_loopg [1, 5] k (fun kq v1 v5 w' => ∃ (x1_1 : Int) (x5_1 : Int), v1 = .int .i64 x1_1 ∧ v5 = .int .i64 x5_1 ∧ Aside0 (laws_heldIntS.l0 kq l0 x1_1 x5_1 = some r) ∧ Aside0 (kq ≤ k) ∧ Drawn0 w w')
 case atStart => exact ⟨(a1), (0), (by first | rfl | (simp; done) | (simp [*]; done)), (by first | rfl | (simp; done) | (simp [*]; done)), H', ⟨Nat.le_refl _⟩, by repeat (first | exact Drawn0.refl _ | apply Drawn0.step)⟩
 case round =>
  clear H'
  try clear c2
  try clear p2
  obtain ⟨x1_1, x5_1, rfl, rfl, HA, HK1, ⟨m1, rfl⟩⟩ := hrel
  cases gk with
  | zero => exact absurd HA.out (by simp [laws_heldIntS.l0])
  | succ k1 =>
   have H := HA.out
   clear HA
   simp only [laws_heldIntS.l0] at H
   by_cases c3 : x5_1 < (l0.length : Int)
   · rw [if_pos c3] at H
     have c3b0 := decide_eq_true c3
     clear c3
     by_cases c4 : 0 ≤ x5_1
     · rw [if_pos c4] at H
       have c4b0 := decide_eq_true c4
       clear c4
       by_cases c5 : (rd l0 x5_1) = x1_1
       · rw [if_pos c5] at H
         have c5b0 : ((rd l0 x5_1) == x1_1) = true := beq_iff_eq.mpr c5
         have c5b1 : ((rd l0 x5_1) != x1_1) = false := bne_eq_false_iff_eq.mpr c5
         clear c5
         have H' := Aside0.mk H
         clear H
         have p324 : 0 ≤ (x5_1 : Int) := of_decide_eq_true zA
         have q324 : x5_1 < (l0.length : Int) := of_decide_eq_true zA
         obtain ⟨ad324, e324, hx324_0⟩ := Kd.at_int HR0.out x5_1 p324 q324
         cases e324
         replace p324 := eq_true p324
         replace q324 := eq_true q324
         go_wp2
         go_roundg k1
         case measure => have := HK1.out; omega
         case rel => exact ⟨(wrap64 (x1_1 + 1)), (wrap64 (x5_1 + 1)), (by first | rfl | (simp; done) | (simp [*]; done)), (by first | rfl | (simp; done) | (simp [*]; done)), H', ⟨by have := HK1.out; omega⟩, by repeat (first | exact Drawn0.refl _ | apply Drawn0.step)⟩
       · rw [if_neg c5] at H
         have c5b0 : ((rd l0 x5_1) == x1_1) = false := beq_eq_false_iff_ne.mpr c5
         have c5b1 : ((rd l0 x5_1) != x1_1) = true := bne_iff_ne.mpr c5
         obtain rfl := Option.some.inj H
         have p324 : 0 ≤ (x5_1 : Int) := of_decide_eq_true zA
         have q324 : x5_1 < (l0.length : Int) := of_decide_eq_true zA
         obtain ⟨ad324, e324, hx324_0⟩ := Kd.at_int HR0.out x5_1 p324 q324
         cases e324
         replace p324 := eq_true p324
         replace q324 := eq_true q324
         go_wp2
         go_ret
         exact ⟨by first | rfl | (simp; done) | (simp [*]; done), by repeat (first | exact Drawn0.refl _ | apply Drawn0.step)⟩
     · rw [if_neg c4] at H
       exact absurd H (by simp)
   · rw [if_neg c3] at H
     have c3b0 : decide (x5_1 < (l0.length : Int)) = false := decide_eq_false c3
     clear c3
     obtain rfl := Option.some.inj H
     go_wp2
     go_ret
     exact ⟨by first | rfl | (simp; done) | (simp [*]; done), by repeat (first | exact Drawn0.refl _ | apply Drawn0.step)⟩

end Go.Proofs.Ythnojbafclglpaa.P
namespace Go.Proofs.Ythnojbafclglpaa.P
open Go.RowKit Go.Proofs.YthnojbafclglpaaW.PrintWords Go.Proofs.YthnojbafclglpaaW.PrintLast Go.Proofs.YthnojbafclglpaaW.PrintMore
set_option linter.unusedVariables false
section
variable {α : Type} {d : Kd α} {e base : Nat} {ok S : Nat → Prop} {w W W1 : World} {v : Value} {xs : List α} {g : Nat} {o : Obj}
theorem uR (hB : Below w.heap.size w W) (h : d.R e W1 W.heap.size (fun _ => True) v xs) : Aside0 (d.R e W1 w.heap.size (fun k => W.heap.size ≤ k ∧ k < W1.heap.size) v xs) :=
  ⟨Kd.R_mono (Kd.R_lower (Kd.R_bound h) (below_size hB)) (fun k hk => ⟨hk.2.1, hk.2.2.1⟩)⟩
theorem uS (hB : Below w.heap.size w W) (h : Kd.S d e W1 W.heap.size (fun _ => True) v xs) : Aside0 (Kd.S d e W1 w.heap.size (fun k => W.heap.size ≤ k ∧ k < W1.heap.size) v xs) :=
  ⟨Kd.S_mono (Kd.S_lower (Kd.S_bound h) (below_size hB)) (fun k hk => ⟨hk.2.1, hk.2.2.1⟩)⟩
theorem uRb (h : Aside0 (d.R e W base ok v xs)) (hb : Below W.heap.size W W1) : Aside0 (d.R e W1 base ok v xs) := ⟨Kd.R_below h.out hb⟩
theorem uSb (h : Aside0 (Kd.S d e W base ok v xs)) (hb : Below W.heap.size W W1) : Aside0 (Kd.S d e W1 base ok v xs) := ⟨Kd.S_below h.out hb⟩
theorem uKb (h : Aside0 (W.heap[g]? = some o)) (hb : Below W.heap.size W W1) : Aside0 (W1.heap[g]? = some o) := ⟨blk_below h.out hb⟩
theorem uRk (h : Aside0 (d.R e W base ok v xs)) (hk : Kept W W1 S) (hne : ∀ k, ok k → ¬ S k) : Aside0 (d.R e W1 base ok v xs) := ⟨Kd.R_kept h.out hk hne⟩
theorem uSk (h : Aside0 (Kd.S d e W base ok v xs)) (hk : Kept W W1 S) (hne : ∀ k, ok k → ¬ S k) : Aside0 (Kd.S d e W1 base ok v xs) := ⟨Kd.S_kept h.out hk hne⟩
theorem uKk (h : Aside0 (W.heap[g]? = some o)) (hk : Kept W W1 S) (hne : ¬ S g) : Aside0 (W1.heap[g]? = some o) := ⟨blk_kept h.out hk hne⟩
/-- A struct of two cells is stored into the call's own block. -/
theorem uBox {P : Program} {f : FuncId} {args : Array Value} {Q : Ending → World → Prop} {t : TypeId} {x y a b : Value} (hb : Aside0 (W.heap[g]? = some (.cells #[x, y] t (0, 0)))) (hB : Aside0 (Below w.heap.size w W)) (hg : w.heap.size ≤ g)
    (h : ∀ W', Aside0 (W'.heap[g]? = some (.cells #[a, b] t (0, 0))) → Kept W W' (fun k => k = g) → Aside0 (Below w.heap.size w W') → Calls P f args W' Q) : Calls P f args ((W.setCell ⟨g, 0, none⟩ a).setCell ⟨g, 1, none⟩ b) Q :=
  h _ ⟨blk_put (cs := #[a, y]) (blk_put (cs := #[x, y]) hb.out 0 a rfl) 1 b rfl⟩ (Kept.setCell (Kept.setCell (Kept.refl W (fun k => k = g)) (p := ⟨g, 0, none⟩) (.inl rfl) a) (p := ⟨g, 1, none⟩) (.inl rfl) b) ⟨below_set (below_set hB.out hg) hg⟩
theorem uArgs {P : Program} {f : FuncId} {args args' : Array Value} {Q : Ending → World → Prop} (h : args = args') (k : Calls P f args' W Q) : Calls P f args W Q := h ▸ k
end
end Go.Proofs.Ythnojbafclglpaa.P
namespace Go.Proofs.Ythnojbafclglpaa.P
open Go.RowKit Go.Proofs.YthnojbafclglpaaW.PrintWords Go.Proofs.YthnojbafclglpaaW.PrintLast Go.Proofs.YthnojbafclglpaaW.PrintMore
set_option linter.unusedVariables false
set_option linter.unusedSimpArgs false
set_option maxRecDepth 100000 in
set_option maxHeartbeats 4000000 in
theorem laws_FnExactParityOf.exit0 (A0_0 : Option Addr) (ca0_0 : Nat) (l0_0 : List (List Int)) (A0_1 : Option Addr) (ca0_1 : Nat) (l0_1 : List (S64)) (k0 : Nat) (t0 : Int) (w : World) (hr0_0 : Kd.C (Kd.slice 3 (Kd.int .i64)) w A0_0 l0_0.length l0_0) (hc0_0 : l0_0.length ≤ ca0_0) (hr0_1 : Kd.C k64 w A0_1 l0_1.length l0_1) (hc0_1 : l0_1.length ≤ ca0_1) (c0 : t0 < 0) (h0 : laws_szSpace.f k0 l0_0 l0_1 1048576 = some t0) :
    Calls Try.prog 7 #[.agg #[.slice A0_0 l0_0.length ca0_0, .slice A0_1 l0_1.length ca0_1]] w fun e w' => e = .returned (.bool true) ∧ Below w.heap.size w w' := by
  have hu25 := Try.underlying25
  have hu28 := Try.underlying28
  have HR0_0 := zM hr0_0; clear hr0_0
  have HC0_0 := zM hc0_0; clear hc0_0
  have HR0_1 := zM hr0_1; clear hr0_1
  have HC0_1 := zM hc0_1; clear hc0_1
  have HB := zM (Below.refl w.heap.size w)
  have H0 := zM h0; clear h0
  have c0b : decide (t0 < 0) = true := decide_eq_true c0
  clear c0
  go_enter Try.func7, Try.ntmps7
  go_wp2_with (first
    | ((with_reducible refine gate_dst (N := 1) rfl ?_); refine ze 1 #[.slice A0_0 l0_0.length ca0_0, .slice A0_1 l0_1.length ca0_1] 25 ?_; intro gb1 hg w1 hbox hb; have HG1 := zM hg; have HW1 := zM (show w.heap.size ≤ gb1 by rw [hg]; exact below_size HB.out); have HL1 := zM (blk_lt hbox); clear hg; have HS1 := zM hb.size; replace HB := zM (below_step HB.out hb); have BK1 := zM hbox; clear hbox hb; have hc1_0 := zy BK1 0; have hf1_0 := blk_frozen BK1.out 0; have hc1_1 := zy BK1 1; have hf1_1 := blk_frozen BK1.out 1)
    | (have hst_ : Aside0 (Below w.heap.size w w1) := HB; clear hst_; go_at_call 12; refine (laws_szSpace.calls k0 _ _ l0_0 _ _ l0_1 1048576 t0 _ ?side1 ?side2 ?side3 ?side4 H0.out).mono ?_; (case side1 => exact zC (Kd.C_below HR0_0.out HB.out)); (case side2 => exact HC0_0.out); (case side3 => exact zC (Kd.C_below HR0_1.out HB.out)); (case side4 => exact HC0_1.out); rintro e w2 ⟨rfl, hb⟩; replace BK1 := uKb BK1 hb; have HS2 := zM hb.size; replace HB := zM (below_step HB.out hb); clear hb; replace hc1_0 := zy BK1 0; replace hf1_0 := blk_frozen BK1.out 0; replace hc1_1 := zy BK1 1; replace hf1_1 := blk_frozen BK1.out 1))
  go_ret
  exact ⟨rfl, HB.out⟩
set_option maxRecDepth 100000 in
set_option maxHeartbeats 4000000 in
theorem laws_FnExactParityOf.walk (A0_0 : Option Addr) (ca0_0 : Nat) (l0_0 : List (List Int)) (A0_1 : Option Addr) (ca0_1 : Nat) (l0_1 : List (S64)) (k0 k1 k2 k3 k4 k5 k7 k8 : Nat) (t0 : Int) (q0 : List Int) (q1 : Bool) (kk0 : Int) (mk0_0 : List (List Int)) (mk0_1 : List (S64)) (kk1 : Int) (mk1_0 : List Int) (w : World) (hr0_0 : Kd.C (Kd.slice 3 (Kd.int .i64)) w A0_0 l0_0.length l0_0) (hc0_0 : l0_0.length ≤ ca0_0) (hr0_1 : Kd.C k64 w A0_1 l0_1.length l0_1) (hc0_1 : l0_1.length ≤ ca0_1) (c0 : ¬ (t0 < 0)) (h0 : laws_szSpace.f k0 l0_0 l0_1 1048576 = some t0) (h1 : laws_toSpace.f k1 l0_0 l0_1 = some (l0_0, l0_1)) (h2 : spec_ParityOf.f k2 l0_0 l0_1 = some (q0, q1)) (h3 : impl_ParityOf.f k3 l0_0 l0_1 = some (q0, q1)) (h4 : laws_eqIntS.f k4 q0 q0 = some true) (h5 : laws_eqSpace.f k5 l0_0 l0_1 l0_0 l0_1 = some true) (h6 : laws_markSpace.f l0_0 l0_1 1 = some (kk0, mk0_0, mk0_1)) (h7 : laws_markIntS.f k7 q0 1 = some (kk1, mk1_0)) (h8 : laws_heldIntS.f k8 mk1_0 1 = some kk1) (nkk0 : ¬ (kk0 < 0)) (nkk1 : ¬ (kk1 < 0)) :
    Calls Try.prog 7 #[.agg #[.slice A0_0 l0_0.length ca0_0, .slice A0_1 l0_1.length ca0_1]] w fun e w' => e = .returned (.bool true) ∧ Below w.heap.size w w' := by
  have hu25 := Try.underlying25
  have hu28 := Try.underlying28
  have HR0_0 := zM hr0_0; clear hr0_0
  have HC0_0 := zM hc0_0; clear hc0_0
  have HR0_1 := zM hr0_1; clear hr0_1
  have HC0_1 := zM hc0_1; clear hc0_1
  have HB := zM (Below.refl w.heap.size w)
  have H0 := zM h0; clear h0
  have H1 := zM h1; clear h1
  have H2 := zM h2; clear h2
  have H3 := zM h3; clear h3
  have H4 := zM h4; clear h4
  have H5 := zM h5; clear h5
  have H6 := zM h6; clear h6
  have H7 := zM h7; clear h7
  have H8 := zM h8; clear h8
  have c0b : decide (t0 < 0) = false := decide_eq_false c0
  clear c0
  have nkk0b : decide (kk0 < 0) = false := decide_eq_false nkk0
  clear nkk0
  have nkk1b : decide (kk1 < 0) = false := decide_eq_false nkk1
  clear nkk1
  go_enter Try.func7, Try.ntmps7
  go_upto_region 10 with (first
    | ((with_reducible refine gate_dst (N := 1) rfl ?_); refine ze 1 #[.slice A0_0 l0_0.length ca0_0, .slice A0_1 l0_1.length ca0_1] 25 ?_; intro gb1 hg w1 hbox hb; have HG1 := zM hg; have HW1 := zM (show w.heap.size ≤ gb1 by rw [hg]; exact below_size HB.out); have HL1 := zM (blk_lt hbox); clear hg; have HS1 := zM hb.size; replace HB := zM (below_step HB.out hb); have BK1 := zM hbox; clear hbox hb; have hc1_0 := zy BK1 0; have hf1_0 := blk_frozen BK1.out 0; have hc1_1 := zy BK1 1; have hf1_1 := blk_frozen BK1.out 1)
    | (have hst_ : Aside0 (Below w.heap.size w w1) := HB; clear hst_; go_at_call 12; refine (laws_szSpace.calls k0 _ _ l0_0 _ _ l0_1 1048576 t0 _ ?side1 ?side2 ?side3 ?side4 H0.out).mono ?_; (case side1 => exact zC (Kd.C_below HR0_0.out HB.out)); (case side2 => exact HC0_0.out); (case side3 => exact zC (Kd.C_below HR0_1.out HB.out)); (case side4 => exact HC0_1.out); rintro e w2 ⟨rfl, hb⟩; replace BK1 := uKb BK1 hb; have HS2 := zM hb.size; replace HB := zM (below_step HB.out hb); clear hb; replace hc1_0 := zy BK1 0; replace hf1_0 := blk_frozen BK1.out 0; replace hc1_1 := zy BK1 1; replace hf1_1 := blk_frozen BK1.out 1)
    | (have hst_ : Aside0 (Below w.heap.size w w2) := HB; clear hst_; go_at_call 14; refine (laws_toSpace.calls k1 _ _ l0_0 _ _ l0_1 l0_0 l0_1 _ ?side1 ?side2 ?side3 ?side4 H1.out).mono ?_; (case side1 => exact zC (Kd.C_below HR0_0.out HB.out)); (case side2 => exact HC0_0.out); (case side3 => exact zC (Kd.C_below HR0_1.out HB.out)); (case side4 => exact HC0_1.out); rintro e w3 ⟨v0_0, v0_1, rfl, ho0, ho1, hb⟩; replace BK1 := uKb BK1 hb; have HS3 := zM hb.size; have HO0_0 := uS HB.out ho0; clear ho0; obtain ⟨Ao0_0, co0_0, eo0_0⟩ := Kd.S_slice HO0_0.out; subst eo0_0; have HO0_1 := uR HB.out ho1; clear ho1; obtain ⟨Ao0_1, co0_1, eo0_1⟩ := Kd.R_slice HO0_1.out; subst eo0_1; replace HB := zM (below_step HB.out hb); clear hb; replace hc1_0 := zy BK1 0; replace hf1_0 := blk_frozen BK1.out 0; replace hc1_1 := zy BK1 1; replace hf1_1 := blk_frozen BK1.out 1)
    | (have hst_ : Aside0 (Below w.heap.size w w3) := HB; clear hst_; go_at_call 33; refine (spec_ParityOf.calls k2 _ _ l0_0 _ _ l0_1 q0 q1 _ ?side1 ?side2 ?side3 ?side4 H2.out).mono ?_; (case side1 => exact zC (Kd.S_reads' HO0_0.out).2.2); (case side2 => exact (Kd.S_reads' HO0_0.out).2.1); (case side3 => exact zC (Kd.R_reads' HO0_1.out).2.2); (case side4 => exact (Kd.R_reads' HO0_1.out).2.1); clear HO0_0 HO0_1; rintro e w4 ⟨v1_0, rfl, ho0, hb⟩; replace BK1 := uKb BK1 hb; have HS4 := zM hb.size; have HO1_0 := uR HB.out ho0; clear ho0; obtain ⟨Ao1_0, co1_0, eo1_0⟩ := Kd.R_slice HO1_0.out; subst eo1_0; replace HB := zM (below_step HB.out hb); clear hb; replace hc1_0 := zy BK1 0; replace hf1_0 := blk_frozen BK1.out 0; replace hc1_1 := zy BK1 1; replace hf1_1 := blk_frozen BK1.out 1)
    | (have hst_ : Aside0 (Below w.heap.size w w4) := HB; clear hst_; go_at_call 14; refine (laws_toSpace.calls k1 _ _ l0_0 _ _ l0_1 l0_0 l0_1 _ ?side1 ?side2 ?side3 ?side4 H1.out).mono ?_; (case side1 => exact zC (Kd.C_below HR0_0.out HB.out)); (case side2 => exact HC0_0.out); (case side3 => exact zC (Kd.C_below HR0_1.out HB.out)); (case side4 => exact HC0_1.out); rintro e w5 ⟨v2_0, v2_1, rfl, ho0, ho1, hb⟩; replace HO1_0 := uRb HO1_0 hb; replace BK1 := uKb BK1 hb; have HS5 := zM hb.size; have HO2_0 := uS HB.out ho0; clear ho0; obtain ⟨Ao2_0, co2_0, eo2_0⟩ := Kd.S_slice HO2_0.out; subst eo2_0; have HO2_1 := uR HB.out ho1; clear ho1; obtain ⟨Ao2_1, co2_1, eo2_1⟩ := Kd.R_slice HO2_1.out; subst eo2_1; replace HB := zM (below_step HB.out hb); clear hb; replace hc1_0 := zy BK1 0; replace hf1_0 := blk_frozen BK1.out 0; replace hc1_1 := zy BK1 1; replace hf1_1 := blk_frozen BK1.out 1)
    | ((with_reducible refine gate_dst (N := 6) rfl ?_); refine ze 6 #[.slice none 0 0, .slice none 0 0] 28 ?_; intro gb6 hg w6 hbox hb; have HG6 := zM hg; have HW6 := zM (show w.heap.size ≤ gb6 by rw [hg]; exact below_size HB.out); have HL6 := zM (blk_lt hbox); clear hg; replace HO1_0 := uRb HO1_0 hb; replace HO2_0 := uSb HO2_0 hb; replace HO2_1 := uRb HO2_1 hb; replace BK1 := uKb BK1 hb; have HS6 := zM hb.size; replace HB := zM (below_step HB.out hb); have hn1_6 : gb1 ≠ gb6 := (by have := HG6.out; have := HL1.out; have := HS2.out; have := HS3.out; have := HS4.out; have := HS5.out; omega); have hn6_1 := hn1_6.symm; have BK6 := zM hbox; clear hbox hb; replace hc1_0 := zy BK1 0; replace hf1_0 := blk_frozen BK1.out 0; replace hc1_1 := zy BK1 1; replace hf1_1 := blk_frozen BK1.out 1; have hc6_0 := zy BK6 0; have hf6_0 := blk_frozen BK6.out 0; have hc6_1 := zy BK6 1; have hf6_1 := blk_frozen BK6.out 1)
    | (have hst_ : Aside0 (Below w.heap.size w w6) := HB; clear hst_; go_at_call 34; refine uBox BK6 HB HW6.out ?_; intro w7 BKn hk HBn; replace HO1_0 := uRk HO1_0 hk (fun k_ hk_ e_ => by have e2 : k_ = gb6 := e_; have := HG6.out; have := HL6.out; have h2 : w3.heap.size ≤ k_ ∧ k_ < w4.heap.size := hk_; have := HS5.out; omega); replace HO2_0 := uSk HO2_0 hk (fun k_ hk_ e_ => by have e2 : k_ = gb6 := e_; have := HG6.out; have := HL6.out; have h2 : w4.heap.size ≤ k_ ∧ k_ < w5.heap.size := hk_; omega); replace HO2_1 := uRk HO2_1 hk (fun k_ hk_ e_ => by have e2 : k_ = gb6 := e_; have := HG6.out; have := HL6.out; have h2 : w4.heap.size ≤ k_ ∧ k_ < w5.heap.size := hk_; omega); replace BK1 := uKk BK1 hk (fun e_ => by have e2 : gb1 = gb6 := e_; have := HG6.out; have := HL6.out; have := HG1.out; have := HL1.out; have := HS2.out; have := HS3.out; have := HS4.out; have := HS5.out; omega); replace BK6 := BKn; replace HB := HBn; clear BKn HBn; have HS7 := zM hk.1; clear hk; refine (impl_ParityOf.calls k3 _ _ l0_0 _ _ l0_1 q0 q1 _ ?side1 ?side2 ?side3 ?side4 H3.out).mono ?_; (case side1 => exact zC (Kd.S_reads' HO2_0.out).2.2); (case side2 => exact (Kd.S_reads' HO2_0.out).2.1); (case side3 => exact zC (Kd.R_reads' HO2_1.out).2.2); (case side4 => exact (Kd.R_reads' HO2_1.out).2.1); rintro e w8 ⟨v3_0, rfl, ho0, hb⟩; replace HO1_0 := uRb HO1_0 hb; replace HO2_0 := uSb HO2_0 hb; replace HO2_1 := uRb HO2_1 hb; replace BK1 := uKb BK1 hb; replace BK6 := uKb BK6 hb; have HS8 := zM hb.size; have HO3_0 := uR HB.out ho0; clear ho0; obtain ⟨Ao3_0, co3_0, eo3_0⟩ := Kd.R_slice HO3_0.out; subst eo3_0; replace HB := zM (below_step HB.out hb); clear hb; replace hc1_0 := zy BK1 0; replace hf1_0 := blk_frozen BK1.out 0; replace hc1_1 := zy BK1 1; replace hf1_1 := blk_frozen BK1.out 1; replace hc6_0 := zy BK6 0; replace hf6_0 := blk_frozen BK6.out 0; replace hc6_1 := zy BK6 1; replace hf6_1 := blk_frozen BK6.out 1)
    | (have hst_ : Aside0 (Below w.heap.size w w8) := HB; clear hst_; go_at_call 18; refine (laws_eqIntS.calls k4 _ _ q0 _ _ q0 true _ ?side1 ?side2 ?side3 ?side4 H4.out).mono ?_; (case side1 => exact zC (Kd.R_reads' HO3_0.out).2.2); (case side2 => exact (Kd.R_reads' HO3_0.out).2.1); (case side3 => exact zC (Kd.R_reads' HO1_0.out).2.2); (case side4 => exact (Kd.R_reads' HO1_0.out).2.1); rintro e w9 ⟨rfl, hb0⟩; have hb := hb0.below; clear hb0; replace HO1_0 := uRb HO1_0 hb; replace HO2_0 := uSb HO2_0 hb; replace HO2_1 := uRb HO2_1 hb; replace HO3_0 := uRb HO3_0 hb; replace BK1 := uKb BK1 hb; replace BK6 := uKb BK6 hb; have HS9 := zM hb.size; replace HB := zM (below_step HB.out hb); clear hb; replace hc1_0 := zy BK1 0; replace hf1_0 := blk_frozen BK1.out 0; replace hc1_1 := zy BK1 1; replace hf1_1 := blk_frozen BK1.out 1; replace hc6_0 := zy BK6 0; replace hf6_0 := blk_frozen BK6.out 0; replace hc6_1 := zy BK6 1; replace hf6_1 := blk_frozen BK6.out 1))
  (try simp only [Act.put, List.setIfInBounds_toArray, List.set_cons_zero, List.set_cons_succ])
  replace HO1_0 := zM (Kd.R_drew HO1_0.out)
  replace HO2_0 := zM (Kd.S_drew HO2_0.out)
  replace HO2_1 := zM (Kd.R_drew HO2_1.out)
  replace HO3_0 := zM (Kd.R_drew HO3_0.out)
  replace BK1 := zM (blk_drew BK1.out)
  replace BK6 := zM (blk_drew BK6.out)
  replace HB := zM (below_drew1 HB.out)
  refine zs (n := 5) (fun w' => w'.cell? ⟨gb6, 0, none⟩ = some (.slice Ao2_0 l0_0.length co2_0) ∧ w'.cell? ⟨gb6, 1, none⟩ = some (.slice Ao2_1 l0_1.length co2_1) ∧ w'.cell? ⟨gb1, 0, none⟩ = some (.slice A0_0 l0_0.length ca0_0) ∧ w'.cell? ⟨gb1, 1, none⟩ = some (.slice A0_1 l0_1.length ca0_1)) ⟨(blk_cell BK6.out 0).trans rfl, (blk_cell BK6.out 1).trans rfl, (blk_cell BK1.out 0).trans rfl, (blk_cell BK1.out 1).trans rfl⟩ (fun hHeld => ?_)
  have HS10 := zM (show w9.heap.size ≤ w9.drew.heap.size from Nat.le_refl _)
  generalize w9.drew = w10 at HO1_0 HO2_0 HO2_1 HO3_0 BK1 BK6 HB HS10 hHeld ⊢
  refine zl 0 41 hHeld ?_ (hy := by rintro w' ⟨s0, s1, s2, s3⟩; go_simp; with_reducible rfl)
  refine zl 1 42 hHeld ?_ (hy := by rintro w' ⟨s0, s1, s2, s3⟩; go_simp; with_reducible rfl)
  refine zh 2 43 Try.func14 #[.agg #[.slice A0_0 l0_0.length ca0_0, .slice A0_1 l0_1.length ca0_1]] (fun K hK => ?_)
  (refine (laws_toSpace.calls k1 _ _ l0_0 _ _ l0_1 l0_0 l0_1 _ ?side1 ?side2 ?side3 ?side4 H1.out).mono ?_; (case side1 => exact zC (Kd.C_below HR0_0.out HB.out)); (case side2 => exact HC0_0.out); (case side3 => exact zC (Kd.C_below HR0_1.out HB.out)); (case side4 => exact HC0_1.out); rintro e w11 ⟨v4_0, v4_1, rfl, ho0, ho1, hb⟩; replace HO1_0 := uRb HO1_0 hb; replace HO2_0 := uSb HO2_0 hb; replace HO2_1 := uRb HO2_1 hb; replace HO3_0 := uRb HO3_0 hb; replace BK1 := uKb BK1 hb; replace BK6 := uKb BK6 hb; have HS11 := zM hb.size; have HO4_0 := uS HB.out ho0; clear ho0; obtain ⟨Ao4_0, co4_0, eo4_0⟩ := Kd.S_slice HO4_0.out; subst eo4_0; have HO4_1 := uR HB.out ho1; clear ho1; obtain ⟨Ao4_1, co4_1, eo4_1⟩ := Kd.R_slice HO4_1.out; subst eo4_1; replace HB := zM (below_step HB.out hb); clear hb)
  refine ⟨_, rfl, ?_⟩
  refine hK.out _ _ ⟨(blk_cell BK6.out 0).trans rfl, (blk_cell BK6.out 1).trans rfl, (blk_cell BK1.out 0).trans rfl, (blk_cell BK1.out 1).trans rfl⟩ (fun hHeld => ?_)
  clear hK K
  refine zn 43 ?_
  refine zh 3 44 Try.func17 #[.agg #[.slice Ao2_0 l0_0.length co2_0, .slice Ao2_1 l0_1.length co2_1], .agg #[.slice Ao4_0 l0_0.length co4_0, .slice Ao4_1 l0_1.length co4_1]] (fun K hK => ?_)
  (refine (laws_eqSpace.calls k5 _ _ l0_0 _ _ l0_1 _ _ l0_0 _ _ l0_1 true _ ?side1 ?side2 ?side3 ?side4 ?side5 ?side6 ?side7 ?side8 H5.out).mono ?_; (case side1 => exact zC (Kd.S_reads' HO2_0.out).2.2); (case side2 => exact (Kd.S_reads' HO2_0.out).2.1); (case side3 => exact zC (Kd.R_reads' HO2_1.out).2.2); (case side4 => exact (Kd.R_reads' HO2_1.out).2.1); (case side5 => exact zC (Kd.S_reads' HO4_0.out).2.2); (case side6 => exact (Kd.S_reads' HO4_0.out).2.1); (case side7 => exact zC (Kd.R_reads' HO4_1.out).2.2); (case side8 => exact (Kd.R_reads' HO4_1.out).2.1); clear HO4_0 HO4_1; rintro e w12 ⟨rfl, hb⟩; replace HO1_0 := uRb HO1_0 hb; replace HO2_0 := uSb HO2_0 hb; replace HO2_1 := uRb HO2_1 hb; replace HO3_0 := uRb HO3_0 hb; replace BK1 := uKb BK1 hb; replace BK6 := uKb BK6 hb; have HS12 := zM hb.size; replace HB := zM (below_step HB.out hb); clear hb)
  refine ⟨_, rfl, ?_⟩
  refine hK.out _ _ ⟨(blk_cell BK6.out 0).trans rfl, (blk_cell BK6.out 1).trans rfl, (blk_cell BK1.out 0).trans rfl, (blk_cell BK1.out 1).trans rfl⟩ (fun hHeld => ?_)
  clear hK K
  refine zn 44 ?_
  refine zq 4 45 ?_
  refine zx ?_
  replace hc1_0 := zy BK1 0
  replace hf1_0 := blk_frozen BK1.out 0
  replace hc1_1 := zy BK1 1
  replace hf1_1 := blk_frozen BK1.out 1
  replace hc6_0 := zy BK6 0
  replace hf6_0 := blk_frozen BK6.out 0
  replace hc6_1 := zy BK6 1
  replace hf6_1 := blk_frozen BK6.out 1
  go_wp2_with (first
    | (have hst_ : Aside0 (Below w.heap.size w w12) := HB; clear hst_; go_at_call 19; refine (laws_markSpace.callsf _ _ _ _ l0_0 l0_1 1 kk0 mk0_0 mk0_1 w w12 HB.out HO2_0.out HO2_1.out H6.out).mono ?_; clear HO2_0 HO2_1; clear BK6 hc6_0 hf6_0 hc6_1 hf6_1; rintro e w13 ⟨rfl, hy0, hy1, hb2, hk⟩; replace HO1_0 := uRk HO1_0 hk (fun k_ hk_ e_ => by have e2 : w4.heap.size ≤ k_ ∧ k_ < w5.heap.size := e_.elim id id; have h2 : w3.heap.size ≤ k_ ∧ k_ < w4.heap.size := hk_; omega); replace HO3_0 := uRk HO3_0 hk (fun k_ hk_ e_ => by have e2 : w4.heap.size ≤ k_ ∧ k_ < w5.heap.size := e_.elim id id; have h2 : w7.heap.size ≤ k_ ∧ k_ < w8.heap.size := hk_; have := HS6.out; have := HS7.out; omega); replace BK1 := uKk BK1 hk (fun e_ => by have e2 : w4.heap.size ≤ gb1 ∧ gb1 < w5.heap.size := e_.elim id id; have := HG1.out; have := HL1.out; have := HS2.out; have := HS3.out; have := HS4.out; omega); clear hy0; clear hy1; have HS13 := zM hk.1; replace HB := zM hb2; clear hb2 hk; replace hc1_0 := zy BK1 0; replace hf1_0 := blk_frozen BK1.out 0; replace hc1_1 := zy BK1 1; replace hf1_1 := blk_frozen BK1.out 1)
    | (have hst_ : Aside0 (Below w.heap.size w w13) := HB; clear hst_; go_at_call 18; refine (laws_eqIntS.calls k4 _ _ q0 _ _ q0 true _ ?side1 ?side2 ?side3 ?side4 H4.out).mono ?_; (case side1 => exact zC (Kd.R_reads' HO3_0.out).2.2); (case side2 => exact (Kd.R_reads' HO3_0.out).2.1); (case side3 => exact zC (Kd.R_reads' HO1_0.out).2.2); (case side4 => exact (Kd.R_reads' HO1_0.out).2.1); rintro e w14 ⟨rfl, hb0⟩; have hb := hb0.below; clear hb0; replace HO1_0 := uRb HO1_0 hb; replace HO3_0 := uRb HO3_0 hb; replace BK1 := uKb BK1 hb; have HS14 := zM hb.size; replace HB := zM (below_step HB.out hb); clear hb; replace hc1_0 := zy BK1 0; replace hf1_0 := blk_frozen BK1.out 0; replace hc1_1 := zy BK1 1; replace hf1_1 := blk_frozen BK1.out 1)
    | (have hst_ : Aside0 (Below w.heap.size w w14) := HB; clear hst_; go_at_call 20; refine (laws_markIntS.calls k7 _ _ q0 1 kk1 mk1_0 w w14 HB.out HO3_0.out H7.out).mono ?_; rintro e w15 ⟨rfl, hy0, hb2, hk⟩; replace HO1_0 := uRk HO1_0 hk (fun k_ hk_ e_ => by have e2 : w7.heap.size ≤ k_ ∧ k_ < w8.heap.size := e_; have h2 : w3.heap.size ≤ k_ ∧ k_ < w4.heap.size := hk_; have := HS5.out; have := HS6.out; have := HS7.out; omega); replace BK1 := uKk BK1 hk (fun e_ => by have e2 : w7.heap.size ≤ gb1 ∧ gb1 < w8.heap.size := e_; have := HG1.out; have := HL1.out; have := HS2.out; have := HS3.out; have := HS4.out; have := HS5.out; have := HS6.out; have := HS7.out; omega); replace HO3_0 := zM (Kd.R_mono (Kd.R_bound hy0) (fun k_ hk_ => (Or.imp id (fun h_ => ⟨h_, hk_.2.2.1⟩) hk_.1 : (w7.heap.size ≤ k_ ∧ k_ < w8.heap.size) ∨ (w14.heap.size ≤ k_ ∧ k_ < w15.heap.size)))); clear hy0; have hl3_0 := (Kd.R_reads' HO3_0.out).1; rw [hl3_0] at HO3_0; replace hl3_0 := zM hl3_0; have HS15 := zM hk.1; replace HB := zM hb2; clear hb2 hk; replace hc1_0 := zy BK1 0; replace hf1_0 := blk_frozen BK1.out 0; replace hc1_1 := zy BK1 1; replace hf1_1 := blk_frozen BK1.out 1)
    | (have hst_ : Aside0 (Below w.heap.size w w15) := HB; clear hst_; go_at_call 28; refine uArgs (args' := #[.slice Ao3_0 mk1_0.length co3_0, .int .i64 1]) (by rw [hl3_0.out]) ?_; refine (laws_heldIntS.calls k8 _ _ mk1_0 1 kk1 _ ?side1 ?side2 H8.out).mono ?_; (case side1 => exact zC (Kd.R_reads' HO3_0.out).2.2); (case side2 => exact (Kd.R_reads' HO3_0.out).2.1); rintro e w16 ⟨rfl, hb0⟩; have hb := hb0.below; clear hb0; replace HO1_0 := uRb HO1_0 hb; replace HO3_0 := uRb HO3_0 hb; replace BK1 := uKb BK1 hb; have HS16 := zM hb.size; replace HB := zM (below_step HB.out hb); clear hb; replace hc1_0 := zy BK1 0; replace hf1_0 := blk_frozen BK1.out 0; replace hc1_1 := zy BK1 1; replace hf1_1 := blk_frozen BK1.out 1)
    | (have hst_ : Aside0 (Below w.heap.size w w16) := HB; clear hst_; go_at_call 14; refine (laws_toSpace.calls k1 _ _ l0_0 _ _ l0_1 l0_0 l0_1 _ ?side1 ?side2 ?side3 ?side4 H1.out).mono ?_; (case side1 => exact zC (Kd.C_below HR0_0.out HB.out)); (case side2 => exact HC0_0.out); (case side3 => exact zC (Kd.C_below HR0_1.out HB.out)); (case side4 => exact HC0_1.out); clear BK1 hc1_0 hf1_0 hc1_1 hf1_1; rintro e w17 ⟨v5_0, v5_1, rfl, ho0, ho1, hb⟩; replace HO1_0 := uRb HO1_0 hb; replace HO3_0 := uRb HO3_0 hb; have HS17 := zM hb.size; have HO5_0 := uS HB.out ho0; clear ho0; obtain ⟨Ao5_0, co5_0, eo5_0⟩ := Kd.S_slice HO5_0.out; subst eo5_0; have HO5_1 := uR HB.out ho1; clear ho1; obtain ⟨Ao5_1, co5_1, eo5_1⟩ := Kd.R_slice HO5_1.out; subst eo5_1; replace HB := zM (below_step HB.out hb); clear hb)
    | (have hst_ : Aside0 (Below w.heap.size w w17) := HB; clear hst_; go_at_call 34; refine (impl_ParityOf.calls k3 _ _ l0_0 _ _ l0_1 q0 q1 _ ?side1 ?side2 ?side3 ?side4 H3.out).mono ?_; (case side1 => exact zC (Kd.S_reads' HO5_0.out).2.2); (case side2 => exact (Kd.S_reads' HO5_0.out).2.1); (case side3 => exact zC (Kd.R_reads' HO5_1.out).2.2); (case side4 => exact (Kd.R_reads' HO5_1.out).2.1); clear HO5_0 HO5_1; rintro e w18 ⟨v6_0, rfl, ho0, hb⟩; replace HO1_0 := uRb HO1_0 hb; replace HO3_0 := uRb HO3_0 hb; have HS18 := zM hb.size; have HO6_0 := uR HB.out ho0; clear ho0; obtain ⟨Ao6_0, co6_0, eo6_0⟩ := Kd.R_slice HO6_0.out; subst eo6_0; replace HB := zM (below_step HB.out hb); clear hb)
    | (have hst_ : Aside0 (Below w.heap.size w w18) := HB; clear hst_; go_at_call 18; refine (laws_eqIntS.calls k4 _ _ q0 _ _ q0 true _ ?side1 ?side2 ?side3 ?side4 H4.out).mono ?_; (case side1 => exact zC (Kd.R_reads' HO6_0.out).2.2); (case side2 => exact (Kd.R_reads' HO6_0.out).2.1); (case side3 => exact zC (Kd.R_reads' HO1_0.out).2.2); (case side4 => exact (Kd.R_reads' HO1_0.out).2.1); clear HO1_0; clear HO6_0; rintro e w19 ⟨rfl, hb0⟩; have hb := hb0.below; clear hb0; replace HO3_0 := uRb HO3_0 hb; have HS19 := zM hb.size; replace HB := zM (below_step HB.out hb); clear hb)
    | (have hst_ : Aside0 (Below w.heap.size w w19) := HB; clear hst_; go_at_call 28; refine uArgs (args' := #[.slice Ao3_0 mk1_0.length co3_0, .int .i64 1]) (by rw [hl3_0.out]) ?_; refine (laws_heldIntS.calls k8 _ _ mk1_0 1 kk1 _ ?side1 ?side2 H8.out).mono ?_; (case side1 => exact zC (Kd.R_reads' HO3_0.out).2.2); (case side2 => exact (Kd.R_reads' HO3_0.out).2.1); clear HO3_0; rintro e w20 ⟨rfl, hb0⟩; have hb := hb0.below; clear hb0; have HS20 := zM hb.size; replace HB := zM (below_step HB.out hb); clear hb))
  go_ret
  exact ⟨rfl, HB.out⟩
end Go.Proofs.Ythnojbafclglpaa.P
namespace Go.Proofs.Ythnojbafclglpaa.P
open Go.RowKit Go.Deep Go.ChangeShapes Go.Joins Go.Proofs.YthnojbafclglpaaW.PrintWords
set_option linter.unusedVariables false
set_option linter.unusedSimpArgs false
/-- A whole number, a list of them, a list of pairs, a list of lists, as they come in. -/
def FitL (l : List Int) : Prop := l.length ≤ 9223372036854775807 ∧ ∀ n ∈ l, (Lit.int .i64 n).wf = true
def FitP (l : List S64) : Prop := l.length ≤ 9223372036854775807 ∧ ∀ e ∈ l, (Lit.int .i64 e.f0).wf = true ∧ (Lit.int .i64 e.f1).wf = true
def FitLL (l : List (List Int)) : Prop := l.length ≤ 9223372036854775807 ∧ ∀ s ∈ l, FitL s
section
variable {H : Type} {enc : TypeId × Value → H} {W : World} {base : Nat} {held : Bool} {fuel : Nat}

theorem read_lists {v : Value} {y : DataW H × List MemPlace} (h : DataW.trod enc Try.prog W base (fun _ => true) held fuel 22 [v] = some y) :
    ∃ (A : Option Addr) (c : Nat) (l : List (List Int)), v = .slice A l.length c ∧ l.length ≤ c ∧ Kd.C (Kd.slice 3 (Kd.int .i64)) W A l.length l ∧ FitLL l := by
  rcases open_int_rows Try.underlying22 Try.underlying26 Try.underlying3 (by kernel_rfl) (by kernel_rfl) h with ⟨hcs, _⟩ | ⟨a, len, cap, Ar, L, C, Z, hcs, _, hl, hm, _, hx⟩
  · injection hcs with hv _
    exact ⟨none, 0, [], hv, Nat.le_refl _, ⟨rfl, Nat.zero_le _, fun h0 => absurd h0 (Nat.lt_irrefl _)⟩, ⟨Nat.zero_le _, fun n hn => by cases hn⟩⟩
  · injection hcs with hv _
    have hlen : ((List.range len).map fun r => (Z r).take (L r)).length = len := by simp
    refine ⟨some a, cap, (List.range len).map fun r => (Z r).take (L r), by rw [hlen]; exact hv, by omega, ⟨rfl, by unfold maxLen at hm; omega, fun _ => ⟨a, rfl, fun j p hj => ?_⟩⟩, ⟨by rw [hlen]; unfold maxLen at hm; omega, ?_⟩⟩
    · have hj2 := (List.getElem?_eq_some_iff.1 hj).1
      rw [hlen] at hj2
      have hp : (Z j).take (L j) = p := by
        rw [List.getElem?_map, List.getElem?_range hj2] at hj
        exact Option.some.inj hj
      subst hp
      obtain ⟨h1, h2, h3, h4, h5, h6, h7⟩ := hx j (by omega)
      have hpl : ((Z j).take (L j)).length = L j := by rw [List.length_take]; omega
      refine ⟨[.slice (Ar j) (L j) (C j)], rfl, ⟨Ar j, C j, by rw [hpl], by omega, ⟨rfl, by unfold maxLen at h3; omega, fun h0 => ?_⟩⟩, fun i u hi => ?_⟩
      · cases ha : Ar j with
        | none => have := h6 ha; omega
        | some a' =>
          refine ⟨a', rfl, fun q p hq => ⟨[.int .i64 p], rfl, rfl, fun i u hi => ?_⟩⟩
          cases i with
          | succ i => simp at hi
          | zero =>
            have hu : Value.int .i64 p = u := by simpa using hi
            subst hu
            have hq2 := (List.getElem?_eq_some_iff.1 hq).1
            rw [hpl] at hq2
            have hq3 : (Z j)[q]? = some p := by rw [List.getElem?_take, if_pos hq2] at hq; exact hq
            have := (h7 a' ha).2 q (by omega)
            rw [List.getD_eq_getElem?_getD, hq3] at this
            simpa [show (Kd.int .i64).sz = 1 from rfl] using this
      · cases i with
        | succ i => simp at hi
        | zero =>
          have hu : Value.slice (Ar j) (L j) (C j) = u := by simpa using hi
          subst hu
          simpa [show (Kd.slice 3 (Kd.int .i64)).sz = 1 from rfl] using h1
    · intro s hs
      rw [List.mem_map] at hs
      obtain ⟨r, hr, rfl⟩ := hs
      have h1 := hx r (by have := List.mem_range.1 hr; omega)
      exact ⟨by have := h1.2.2.1; have := h1.2.2.2.1; unfold maxLen at *; rw [List.length_take]; omega, fun n hn => h1.2.2.2.2.1 n (List.mem_of_mem_take hn)⟩

theorem read_prs {v : Value} {y : DataW H × List MemPlace} (h : DataW.trod enc Try.prog W base (fun _ => true) held fuel 23 [v] = some y) :
    ∃ (A : Option Addr) (c : Nat) (l : List S64), v = .slice A l.length c ∧ l.length ≤ c ∧ Kd.C k64 W A l.length l ∧ FitP l := by
  rcases open_slice Try.underlying23 h with ⟨hcs, _⟩ | ⟨a, len, cap, m, n, D, Pl, hcs, _, hl, hm, hmm, _, hx⟩
  · injection hcs with hv _
    exact ⟨none, 0, [], hv, Nat.le_refl _, ⟨rfl, Nat.zero_le _, fun h0 => absurd h0 (Nat.lt_irrefl _)⟩, ⟨Nat.zero_le _, fun n hn => by cases hn⟩⟩
  · injection hcs with hv _
    have hce : Try.prog.cellsOf 64 = 2 := by kernel_rfl
    have hci : Try.prog.cellsOf 3 = 1 := by kernel_rfl
    have each : ∀ i, i < len → ∃ e : S64, (W.cell? (a.add (i * 2)) = some (.int .i64 e.f0) ∧ W.cell? (a.add (i * 2 + 1)) = some (.int .i64 e.f1)) ∧ (Lit.int .i64 e.f0).wf = true ∧ (Lit.int .i64 e.f1).wf = true := by
      intro i hi
      obtain ⟨cs', h1, h2⟩ := hx i (by simp only [if_true] at hmm; omega)
      rw [hce] at h1
      obtain ⟨_, hcl, hcc⟩ := World.cells?_some h1
      obtain ⟨c0, c1, rfl⟩ : ∃ c0 c1, cs' = [c0, c1] := by
        match cs', hcl with
        | [c0, c1], _ => exact ⟨c0, c1, rfl⟩
      obtain ⟨xs, q, rfl, hq, _, hxl, he⟩ := DataW.trod_array Try.underlying64 h2
      have e0 := he 0 (by omega)
      have e1 := he 1 (by omega)
      simp only [hci] at e0 e1
      obtain ⟨y0, hy0⟩ : ∃ y0, xs[0]? = some y0 := ⟨xs[0], List.getElem?_eq_getElem (by omega)⟩
      obtain ⟨y1, hy1⟩ : ∃ y1, xs[1]? = some y1 := ⟨xs[1], List.getElem?_eq_getElem (by omega)⟩
      rw [hy0] at e0
      rw [hy1] at e1
      obtain ⟨n0, k0, _, w0⟩ := DataW.trod_int Try.underlying3 e0
      obtain ⟨n1, k1, _, w1⟩ := DataW.trod_int Try.underlying3 e1
      simp at k0 k1
      subst k0
      subst k1
      have f0 := hcc 0 (by omega)
      have f1 := hcc 1 (by omega)
      refine ⟨⟨n0, n1⟩, ⟨?_, ?_⟩, w0, w1⟩
      · rw [Addr.add_add, Nat.add_zero] at f0
        simpa using f0
      · rw [Addr.add_add] at f1
        simpa using f1
    have hlen : ((List.range len).map fun i => if hi : i < len then (each i hi).choose else z64).length = len := by simp
    refine ⟨some a, cap, (List.range len).map fun i => if hi : i < len then (each i hi).choose else z64, by rw [hlen]; exact hv, by omega, ⟨rfl, by unfold maxLen at hm; omega, fun _ => ⟨a, rfl, fun j p hj => ?_⟩⟩, ⟨by rw [hlen]; unfold maxLen at hm; omega, ?_⟩⟩
    · have hj2 := (List.getElem?_eq_some_iff.1 hj).1
      rw [hlen] at hj2
      have hp : (each j hj2).choose = p := by
        rw [List.getElem?_map, List.getElem?_range hj2] at hj
        simpa [hj2] using hj
      obtain ⟨⟨h1, h2⟩, _⟩ := (each j hj2).choose_spec
      rw [hp] at h1 h2
      refine ⟨[.int .i64 p.f0, .int .i64 p.f1], rfl, k64_mk W p, fun i u hi => ?_⟩
      rw [show k64.sz = 2 from rfl]
      match i, hi with
      | 0, hi =>
        have hu : Value.int .i64 p.f0 = u := by simpa using hi
        subst hu
        exact h1
      | 1, hi =>
        have hu : Value.int .i64 p.f1 = u := by simpa using hi
        subst hu
        exact h2
    · intro e he
      rw [List.mem_map] at he
      obtain ⟨r, hr, rfl⟩ := he
      have hr2 := List.mem_range.1 hr
      simp only [hr2, dif_pos]
      exact (each r hr2).choose_spec.2
end
end Go.Proofs.Ythnojbafclglpaa.P
namespace Go.Proofs.Ythnojbafclglpaa.P
open Go.RowKit Go.Proofs.YthnojbafclglpaaW.PrintWords Go.Proofs.YthnojbafclglpaaW.PrintLast Go.Proofs.YthnojbafclglpaaW.PrintMore
set_option linter.unusedVariables false
set_option linter.unusedSimpArgs false
section
variable {α β : Type}
theorem Ev.pos {c : Prop} [Decidable c] {f g : Nat → Option α} {r : α} (h : c) (k : Ev f r) : Ev (fun n => if c then f n else g n) r := by simpa only [if_pos h] using k
theorem Ev.neg {c : Prop} [Decidable c] {f g : Nat → Option α} {r : α} (h : ¬ c) (k : Ev g r) : Ev (fun n => if c then f n else g n) r := by simpa only [if_neg h] using k
theorem Ev.bindo {o : Option α} {f : Nat → α → Option β} {a : α} {r : β} (h : o = some a) (k : Ev (fun n => f n a) r) : Ev (fun n => o.bind (f n)) r := by simpa only [h, Option.bind_some] using k
theorem Ev.some {o : Option α} {r : α} (h : o = some r) : Ev (fun _ => o) r := ⟨0, fun _ _ => h⟩
end
theorem wrap_nat {m : Int} (h : -9223372036854775808 ≤ m) (h2 : m ≤ 9223372036854775807) : wrap64 m = m := by unfold wrap64; omega
theorem wrap_up {m n : Nat} (h : m < n) (hn : n ≤ 9223372036854775807) : wrap64 ((m : Int) + 1) = ((m + 1 : Nat) : Int) := by unfold wrap64; omega
theorem rd_at (l : List Int) (m : Nat) (h : m < l.length) : rd l (m : Int) = l[m] := by simp [rd, List.getD_eq_getElem?_getD, List.getElem?_eq_getElem h]
theorem rdT_at (l : List S64) (m : Nat) (h : m < l.length) : rd_T64 l (m : Int) = l[m] := by simp [rd_T64, List.getD_eq_getElem?_getD, List.getElem?_eq_getElem h]

/-! Copies. -/
theorem take_set_next {α : Type} (l acc : List α) (m : Nat) (hm : m < l.length) (ha : acc.length = l.length) (h : acc.take m = l.take m) : (acc.set m l[m]).take (m + 1) = l.take (m + 1) := by
  rw [List.take_succ_eq_append_getElem (by rw [List.length_set]; omega), List.take_succ_eq_append_getElem hm, List.getElem_set_self, List.take_set_of_le (Nat.le_refl _), h]
theorem toIntA2S_loop (l : List S64) (hl : l.length ≤ 1048576) (d : Nat) : ∀ (acc : List S64) (m : Nat), l.length - m = d → m ≤ l.length → acc.length = l.length → acc.take m = l.take m →
    Ev (fun k => laws_toIntA2S.l0 k l acc (m : Int)) l := by
  induction d with
  | zero =>
    intro acc m h0 h1 h2 h3
    refine Ev.step (fun k => by rw [laws_toIntA2S.l0]) ?_
    refine Ev.neg (by omega) ?_
    have : acc = l := by rw [← List.take_length (l := acc), ← List.take_length (l := l), h2, show l.length = m by omega]; exact h3
    rw [this]
    exact Ev.now _
  | succ d ih =>
    intro acc m h0 h1 h2 h3
    have hm : m < l.length := by omega
    refine Ev.step (fun k => by rw [laws_toIntA2S.l0]) ?_
    refine Ev.pos (by omega) (Ev.pos (by omega) (Ev.bindo rfl (Ev.pos (by omega) ?_)))
    rw [wrap_up hm (by omega), rdT_at l m hm, Int.toNat_natCast]
    exact ih _ (m + 1) (by omega) (by omega) (by rw [List.length_set]; exact h2) (take_set_next l acc m hm h2 h3)
theorem toIntA2S_ev (l : List S64) (hl : l.length ≤ 1048576) : Ev (fun k => laws_toIntA2S.f k l) l := by
  unfold laws_toIntA2S.f
  refine Ev.pos (by omega) (Ev.pos (by omega) ?_)
  exact toIntA2S_loop l hl l.length _ 0 (by omega) (Nat.zero_le _) (by simp) (by simp)
theorem toIntS_loop (l : List Int) (hl : l.length ≤ 1048576) (d : Nat) : ∀ (acc : List Int) (m : Nat), l.length - m = d → m ≤ l.length → acc.length = l.length → acc.take m = l.take m →
    Ev (fun k => laws_toIntS.l0 k l acc (m : Int)) l := by
  induction d with
  | zero =>
    intro acc m h0 h1 h2 h3
    refine Ev.step (fun k => by rw [laws_toIntS.l0]) ?_
    refine Ev.neg (by omega) ?_
    have : acc = l := by rw [← List.take_length (l := acc), ← List.take_length (l := l), h2, show l.length = m by omega]; exact h3
    rw [this]
    exact Ev.now _
  | succ d ih =>
    intro acc m h0 h1 h2 h3
    have hm : m < l.length := by omega
    refine Ev.step (fun k => by rw [laws_toIntS.l0]) ?_
    refine Ev.pos (by omega) (Ev.pos (by omega) (Ev.pos (by omega) ?_))
    rw [wrap_up hm (by omega), rd_at l m hm, Int.toNat_natCast]
    exact ih _ (m + 1) (by omega) (by omega) (by rw [List.length_set]; exact h2) (take_set_next l acc m hm h2 h3)
theorem toIntS_ev (l : List Int) (hl : l.length ≤ 1048576) : Ev (fun k => laws_toIntS.f k l) l := by
  unfold laws_toIntS.f
  refine Ev.pos (by omega) (Ev.pos (by omega) ?_)
  exact toIntS_loop l hl l.length _ 0 (by omega) (Nat.zero_le _) (by simp) (by simp)
/-! Comparisons of equals. -/
theorem eqIntA2S_loop (l : List S64) (hl : l.length ≤ 1048576) (d : Nat) : ∀ (m : Nat), l.length - m = d → m ≤ l.length → Ev (fun k => laws_eqIntA2S.l0 k l l (m : Int)) true := by
  induction d with
  | zero =>
    intro m h0 h1
    refine Ev.step (fun k => by rw [laws_eqIntA2S.l0]) ?_
    exact Ev.neg (by omega) (Ev.now _)
  | succ d ih =>
    intro m h0 h1
    have hm : m < l.length := by omega
    refine Ev.step (fun k => by rw [laws_eqIntA2S.l0]) ?_
    refine Ev.pos (by omega) (Ev.pos (by omega) (Ev.pos (by omega) (Ev.bindo (a := true) (by simp [laws_eqIntA2.f]) (Ev.pos rfl ?_))))
    rw [wrap_up hm (by omega)]
    exact ih (m + 1) (by omega) (by omega)
theorem eqIntA2S_ev (l : List S64) (hl : l.length ≤ 1048576) : Ev (fun k => laws_eqIntA2S.f k l l) true := by
  unfold laws_eqIntA2S.f
  exact Ev.pos rfl (eqIntA2S_loop l hl l.length 0 (by omega) (Nat.zero_le _))
theorem eqIntS_loop (l : List Int) (hl : l.length ≤ 1048576) (d : Nat) : ∀ (m : Nat), l.length - m = d → m ≤ l.length → Ev (fun k => laws_eqIntS.l0 k l l (m : Int)) true := by
  induction d with
  | zero =>
    intro m h0 h1
    refine Ev.step (fun k => by rw [laws_eqIntS.l0]) ?_
    exact Ev.neg (by omega) (Ev.now _)
  | succ d ih =>
    intro m h0 h1
    have hm : m < l.length := by omega
    refine Ev.step (fun k => by rw [laws_eqIntS.l0]) ?_
    refine Ev.pos (by omega) (Ev.pos (by omega) (Ev.pos (by omega) (Ev.pos rfl ?_)))
    rw [wrap_up hm (by omega)]
    exact ih (m + 1) (by omega) (by omega)
theorem eqIntS_ev (l : List Int) (hl : l.length ≤ 1048576) : Ev (fun k => laws_eqIntS.f k l l) true := by
  unfold laws_eqIntS.f
  exact Ev.pos rfl (eqIntS_loop l hl l.length 0 (by omega) (Nat.zero_le _))
end Go.Proofs.Ythnojbafclglpaa.P
namespace Go.Proofs.Ythnojbafclglpaa.P
open Go.RowKit Go.Proofs.YthnojbafclglpaaW.PrintWords Go.Proofs.YthnojbafclglpaaW.PrintLast Go.Proofs.YthnojbafclglpaaW.PrintMore
set_option linter.unusedVariables false
set_option linter.unusedSimpArgs false

def cmpI (a b : Int) : Int := if a < b then -1 else if a > b then 1 else 0
theorem cmp_Compare_at (a b : Int) : cmp_Compare_int.f a b = some (cmpI a b) := by
  unfold cmp_Compare_int.f cmp_isNaN_int.f cmpI
  simp only [Option.bind_some, bne_self_eq_false, Bool.false_eq_true, if_false]
  split
  · rfl
  · split <;> rfl
def cmpL : List Int → List Int → Int
  | [], [] => 0
  | [], _ :: _ => -1
  | _ :: _, [] => 1
  | a :: x, b :: y => if cmpI a b = 0 then cmpL x y else cmpI a b
theorem wrap_succ {m n : Nat} (h : m < n) (hn : n ≤ 9223372036854775807) : wrap64 ((m : Int) + 1) = ((m + 1 : Nat) : Int) := by unfold wrap64; omega
theorem slices_Compare_loop (l0 l1 : List Int) (hl : Aside0 (l0.length ≤ 9223372036854775807)) (d : Nat) : ∀ (k m : Nat), l0.length - m = d → m ≤ l0.length → m ≤ l1.length → d < k →
    slices_Compare_int_int.l0 k l0 l1 l0 (l0.length : Int) (m : Int) = some (cmpL (l0.drop m) (l1.drop m)) := by
  induction d with
  | zero =>
    intro k m h0 h1 h2 hk
    obtain ⟨k, rfl⟩ : ∃ q, k = q + 1 := ⟨k - 1, by omega⟩
    have e : m = l0.length := by omega
    subst e
    rw [slices_Compare_int_int.l0, if_neg (by omega), List.drop_length]
    by_cases h : l0.length < l1.length
    · rw [if_pos (by omega), List.drop_eq_getElem_cons h]; rfl
    · have e3 : l1.drop l0.length = [] := List.drop_eq_nil_of_le (by omega)
      rw [if_neg (by omega), e3]; rfl
  | succ d ih =>
    intro k m h0 h1 h2 hk
    obtain ⟨k, rfl⟩ : ∃ q, k = q + 1 := ⟨k - 1, by omega⟩
    have hm : m < l0.length := by omega
    rw [slices_Compare_int_int.l0, if_pos (by omega), if_pos (by omega), if_pos (by omega)]
    by_cases h : m < l1.length
    · rw [if_neg (by omega), if_pos (by omega), cmp_Compare_at, Option.bind_some]
      have e0 : rd l0 m = l0[m] := by simp [rd, List.getD_eq_getElem?_getD, List.getElem?_eq_getElem hm]
      have e1 : rd l1 m = l1[m] := by simp [rd, List.getD_eq_getElem?_getD, List.getElem?_eq_getElem h]
      rw [e0, e1, List.drop_eq_getElem_cons hm, List.drop_eq_getElem_cons h, cmpL]
      split
      · rw [wrap_succ hm hl.out]
        exact ih k (m + 1) (by omega) (by omega) (by omega) (by omega)
      · rfl
    · have e3 : l1.drop m = [] := List.drop_eq_nil_of_le (by omega)
      rw [if_pos (by omega), List.drop_eq_getElem_cons hm, e3]; rfl
theorem slices_Compare_at (l0 l1 : List Int) (hl : l0.length ≤ 9223372036854775807) (k : Nat) (hk : l0.length < k) : slices_Compare_int_int.f k l0 l1 = some (cmpL l0 l1) :=
  slices_Compare_loop l0 l1 ⟨hl⟩ l0.length k 0 (by omega) (Nat.zero_le _) (Nat.zero_le _) hk
def cmpP (a b : S64) : Int := if cmpI a.f0 b.f0 = 0 then cmpI a.f1 b.f1 else cmpI a.f0 b.f0
theorem comparePairs_at (a b : S64) (k : Nat) (hk : 3 ≤ k) : impl_comparePairs.f k a.f0 a.f1 b.f0 b.f1 = some (cmpP a b) := by
  obtain ⟨k, rfl⟩ : ∃ q, k = q + 3 := ⟨k - 3, by omega⟩
  unfold impl_comparePairs.f cmp_Or_int.f
  simp only [cmp_Compare_at, Option.bind_some]
  unfold cmpP
  generalize cmpI a.f0 b.f0 = x
  generalize cmpI a.f1 b.f1 = y
  have w1 : wrap64 (0 + 1) = 1 := by unfold wrap64; omega
  have w2 : wrap64 (1 + 1) = 2 := by unfold wrap64; omega
  have r0 : rd [x, y] 0 = x := rfl
  have r1 : rd [x, y] 1 = y := rfl
  have hn : (([x, y] : List Int).length : Int) = 2 := rfl
  rw [hn, cmp_Or_int.l0, if_pos (by omega), if_pos (by omega), hn, if_pos (by omega), r0, w1]
  by_cases h : x = 0
  · rw [if_pos h, if_pos h, cmp_Or_int.l0, if_pos (by omega), if_pos (by omega), hn, if_pos (by omega), r1, w2]
    by_cases h2 : y = 0
    · rw [if_pos h2, cmp_Or_int.l0, if_neg (by omega), h2]; rfl
    · rw [if_neg h2]; rfl
  · rw [if_neg h, if_neg h]; rfl
end Go.Proofs.Ythnojbafclglpaa.P
namespace Go.Proofs.Ythnojbafclglpaa.P
open Go.RowKit Go.Proofs.YthnojbafclglpaaW.PrintWords Go.Proofs.YthnojbafclglpaaW.PrintLast Go.Proofs.YthnojbafclglpaaW.PrintMore
set_option linter.unusedVariables false
set_option linter.unusedSimpArgs false

theorem in_at (a lo hi : Int) : spec_l1In.f a lo hi = some (decide (lo ≤ a) && decide (a ≤ hi)) := by
  unfold spec_l1In.f
  by_cases h : lo ≤ a
  · rw [if_pos h, decide_eq_true h, Bool.true_and]
  · rw [if_neg h, decide_eq_false h, Bool.false_and]
/-- A pair comes before another one. -/
def befP (a b : S64) : Bool := decide (a.f0 < b.f0) || (decide (a.f0 = b.f0) && decide (a.f1 < b.f1))
theorem edge_at (a b : S64) : spec_l2Edge.f a.f0 a.f1 b.f0 b.f1 = some (befP a b) := by
  unfold spec_l2Edge.f befP
  by_cases h : a.f0 < b.f0
  · rw [if_pos h, decide_eq_true h, Bool.true_or]
  · rw [if_neg h, decide_eq_false h, Bool.false_or]
    by_cases h2 : a.f0 = b.f0
    · rw [if_pos h2, decide_eq_true h2, Bool.true_and]
    · rw [if_neg h2, decide_eq_false h2, Bool.false_and]
theorem cmpP_bef (a b : S64) : (cmpP a b < 0) ↔ befP a b = true := by
  unfold cmpP befP cmpI
  simp only [Bool.or_eq_true, Bool.and_eq_true, decide_eq_true_eq]
  by_cases h : a.f0 < b.f0
  · simp [h]
  · by_cases h2 : b.f0 < a.f0
    · have : ¬ a.f0 = b.f0 := by omega
      simp [h, h2, this]
    · have h3 : a.f0 = b.f0 := by omega
      by_cases h4 : a.f1 < b.f1
      · simp [h3, h4]
      · by_cases h5 : b.f1 < a.f1 <;> simp [h3, h4, h5]
/-- Pairs of numbers from 0 on below n, the less one first, strictly ascending behind a first one. -/
def goodP (n : Int) : Option S64 → List S64 → Bool
  | _, [] => true
  | p, e :: t => (decide (0 ≤ e.f0) && decide (e.f0 < e.f1) && decide (e.f1 < n)) && ((match p with | none => true | some q => befP q e) && goodP n (some e) t)
def prevP (l : List S64) : Nat → Option S64
  | 0 => none
  | m + 1 => l[m]?
theorem goodP_step (l : List S64) (n : Int) (m : Nat) (hm : m < l.length) : goodP n (prevP l m) (l.drop m) = ((decide (0 ≤ l[m].f0) && decide (l[m].f0 < l[m].f1) && decide (l[m].f1 < n)) && ((match prevP l m with | none => true | some q => befP q l[m]) && goodP n (prevP l (m + 1)) (l.drop (m + 1)))) := by
  rw [List.drop_eq_getElem_cons hm, show prevP l (m + 1) = some l[m] from List.getElem?_eq_getElem hm]
  cases prevP l m <;> rfl
theorem l2Pairs_loop (l : List S64) (n : Int) (hn : 0 ≤ n) (hn2 : n ≤ 4611686018427387904) (hl : l.length ≤ 1048576) (d : Nat) : ∀ (m : Nat), l.length - m = d → m ≤ l.length →
    Ev (fun k => spec_l2Pairs.l0 k l n (m : Int)) (goodP n (prevP l m) (l.drop m)) := by
  induction d with
  | zero =>
    intro m h0 h1
    refine Ev.step (fun k => by rw [spec_l2Pairs.l0]) ?_
    have e3 : l.drop m = [] := List.drop_eq_nil_of_le (by omega)
    rw [e3]
    refine Ev.neg (by omega) ?_
    cases prevP l m <;> exact Ev.now _
  | succ d ih =>
    intro m h0 h1
    have hm : m < l.length := by omega
    refine Ev.step (fun k => by rw [spec_l2Pairs.l0]) ?_
    rw [goodP_step l n m hm]
    refine Ev.pos (by omega) (Ev.pos (by omega) ?_)
    rw [rdT_at l m hm, wrap_nat (m := n - 1) (by omega) (by omega)]
    have ihm := ih (m + 1) (by omega) (by omega)
    rw [← wrap_up hm (by omega)] at ihm
    generalize goodP n (prevP l (m + 1)) (l.drop (m + 1)) = R at ihm ⊢
    refine Ev.bindo (in_at _ _ _) ?_
    by_cases c1 : 0 ≤ l[m].f0
    · by_cases c2 : l[m].f0 ≤ n - 1
      · refine Ev.pos (by simp [c1, c2]) (Ev.bindo (in_at _ _ _) ?_)
        by_cases c3 : 0 ≤ l[m].f1 ∧ l[m].f1 ≤ n - 1
        · refine Ev.pos (by simp [c3.1, c3.2]) ?_
          by_cases c4 : l[m].f0 ≥ l[m].f1
          · have : (decide (0 ≤ l[m].f0) && decide (l[m].f0 < l[m].f1) && decide (l[m].f1 < n)) = false := by simp; omega
            rw [this, Bool.false_and]
            exact Ev.pos c4 (Ev.now _)
          · have : (decide (0 ≤ l[m].f0) && decide (l[m].f0 < l[m].f1) && decide (l[m].f1 < n)) = true := by simp; omega
            rw [this, Bool.true_and]
            refine Ev.neg c4 ?_
            cases m with
            | zero =>
              refine Ev.neg (by omega) ?_
              simp only [prevP, Bool.true_and]
              exact ihm
            | succ q =>
              have hq : q < l.length := by omega
              have hw : wrap64 (((q + 1 : Nat) : Int) - 1) = (q : Int) := by unfold wrap64; omega
              refine Ev.pos (by omega) ?_
              rw [hw]
              refine Ev.pos (by omega) (Ev.pos (by omega) ?_)
              rw [rdT_at l q hq]
              refine Ev.bindo (edge_at _ _) ?_
              simp only [prevP, List.getElem?_eq_getElem hq]
              cases befP l[q] l[q + 1] with
              | true => rw [Bool.true_and]; exact Ev.pos rfl ihm
              | false => rw [Bool.false_and]; exact Ev.neg (by decide) (Ev.now _)
        · have : (decide (0 ≤ l[m].f0) && decide (l[m].f0 < l[m].f1) && decide (l[m].f1 < n)) = false := by simp; omega
          rw [this, Bool.false_and]
          exact Ev.neg (by simp; omega) (Ev.now _)
      · have : (decide (0 ≤ l[m].f0) && decide (l[m].f0 < l[m].f1) && decide (l[m].f1 < n)) = false := by simp; omega
        rw [this, Bool.false_and]
        exact Ev.neg (by simp; omega) (Ev.now _)
    · have : (decide (0 ≤ l[m].f0) && decide (l[m].f0 < l[m].f1) && decide (l[m].f1 < n)) = false := by simp; omega
      rw [this, Bool.false_and]
      exact Ev.neg (by simp; omega) (Ev.now _)
theorem isPairs_loop (l : List S64) (n : Int) (hl : l.length ≤ 1048576) (d : Nat) : ∀ (m : Nat), l.length - m = d → m ≤ l.length →
    Ev (fun k => impl_isPairs.l0 k l n l (l.length : Int) (m : Int)) (goodP n (prevP l m) (l.drop m)) := by
  induction d with
  | zero =>
    intro m h0 h1
    refine Ev.step (fun k => by rw [impl_isPairs.l0]) ?_
    have e3 : l.drop m = [] := List.drop_eq_nil_of_le (by omega)
    rw [e3]
    refine Ev.neg (by omega) ?_
    cases prevP l m <;> exact Ev.now _
  | succ d ih =>
    intro m h0 h1
    have hm : m < l.length := by omega
    refine Ev.step (fun k => by rw [impl_isPairs.l0]) ?_
    rw [goodP_step l n m hm]
    refine Ev.pos (by omega) (Ev.pos (by omega) (Ev.pos (by omega) ?_))
    rw [rdT_at l m hm]
    have ihm := ih (m + 1) (by omega) (by omega)
    rw [← wrap_up hm (by omega)] at ihm
    generalize goodP n (prevP l (m + 1)) (l.drop (m + 1)) = R at ihm ⊢
    by_cases c1 : l[m].f0 < 0
    · have : (decide (0 ≤ l[m].f0) && decide (l[m].f0 < l[m].f1) && decide (l[m].f1 < n)) = false := by simp; omega
      rw [this, Bool.false_and]
      exact Ev.pos c1 (Ev.now _)
    · refine Ev.neg c1 ?_
      by_cases c2 : l[m].f0 ≥ l[m].f1
      · have : (decide (0 ≤ l[m].f0) && decide (l[m].f0 < l[m].f1) && decide (l[m].f1 < n)) = false := by simp; omega
        rw [this, Bool.false_and]
        exact Ev.pos c2 (Ev.now _)
      · refine Ev.neg c2 ?_
        by_cases c3 : l[m].f1 ≥ n
        · have : (decide (0 ≤ l[m].f0) && decide (l[m].f0 < l[m].f1) && decide (l[m].f1 < n)) = false := by simp; omega
          rw [this, Bool.false_and]
          exact Ev.pos c3 (Ev.now _)
        · have : (decide (0 ≤ l[m].f0) && decide (l[m].f0 < l[m].f1) && decide (l[m].f1 < n)) = true := by simp; omega
          rw [this, Bool.true_and]
          refine Ev.neg c3 ?_
          cases m with
          | zero =>
            refine Ev.neg (by omega) ?_
            simp only [prevP, Bool.true_and]
            exact ihm
          | succ q =>
            have hq : q < l.length := by omega
            have hw : wrap64 (((q + 1 : Nat) : Int) - 1) = (q : Int) := by unfold wrap64; omega
            refine Ev.pos (by omega) ?_
            rw [hw]
            refine Ev.pos (by omega) (Ev.pos (by omega) ?_)
            rw [rdT_at l q hq]
            refine Ev.bind (a := cmpP l[q] l[q + 1]) ⟨3, fun k hk => comparePairs_at _ _ k hk⟩ ?_
            simp only [prevP, List.getElem?_eq_getElem hq]
            have hb := cmpP_bef l[q] l[q + 1]
            cases hbb : befP l[q] l[q + 1] with
            | true => rw [Bool.true_and]; exact Ev.neg (by have := hb.2 hbb; omega) ihm
            | false => rw [Bool.false_and]; exact Ev.pos (by rw [hbb] at hb; have : ¬ cmpP l[q] l[q+1] < 0 := fun h => by have := hb.1 h; cases this
                                                             omega) (Ev.now _)
theorem l2Pairs_ev (l : List S64) (n : Int) (hn : 0 ≤ n) (hn2 : n ≤ 4611686018427387904) (hl : l.length ≤ 1048576) : Ev (fun k => spec_l2Pairs.f k l n) (goodP n none l) :=
  l2Pairs_loop l n hn hn2 hl l.length 0 (by omega) (Nat.zero_le _)
theorem isPairs_ev (l : List S64) (n : Int) (hl : l.length ≤ 1048576) : Ev (fun k => impl_isPairs.f k l n) (goodP n none l) :=
  isPairs_loop l n hl l.length 0 (by omega) (Nat.zero_le _)
/-- A valid graph. -/
def okG (a : Int) (l : List S64) : Bool := (decide (0 ≤ a) && decide (a ≤ 8)) && goodP a none l
end Go.Proofs.Ythnojbafclglpaa.P
