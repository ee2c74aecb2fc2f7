-- Written by a program of this session (the kit's print, turned: wip/print/patch.py) out of the translation. Not trusted: Lean checks it.
import Derived.Test.YtfkcddambaadjaaDoorParseGraphG3
import Derived.Test.YtfkcddambaadjaaDoorParseGraphG5
import Derived.Test.YtfkcddambaadjaaDoorParseGraphG7
import Derived.Test.YtfkcddambaadjaaDoorParseGraphG8
import Derived.Lib.SplitLaws
import Derived.Test.YtfkcddambaadjaaDoorParseGraphG6
import Derived.Below
import Derived.Handy
namespace Go.Proofs.YtfkcddambaadjaaDoor.P
open Go.RowKit Go.Proofs.YtfkcddambaadjaaDoorW.PrintWords Go.Proofs.YtfkcddambaadjaaDoorW.PrintLast Go.Proofs.YtfkcddambaadjaaDoorW.PrintMore
attribute [local go_sem] max2_int min2_int max_two min_two max_three min_three max_four min_four   -- for this text's walks alone
set_option linter.unusedVariables false
set_option linter.unusedSimpArgs false

/-! ### spec_ParseGraph: function 10 -/
mutual
def spec_ParseGraph.j1 : Nat → ByteArray → Bool → Int → List (S41) → Option (Int × (List (S41)) × Bool)
 | 0, _, _, _, _ => none
 | k + 1, x0, x6, x227000, x227001 => if x6 = true then ((spec_l2Good.f k x227000 x227001).bind fun t238 => (if t238 = true then ((spec_l2Text.f k x227000 x227001).bind fun t239 => (if t239.toList = x0.toList then (some (x227000, x227001, true)) else (some (0, ([] : List (S41)), false)))) else (some (0, ([] : List (S41)), false)))) else (some (0, ([] : List (S41)), false))
def spec_ParseGraph.l0 : Nat → ByteArray → List ByteArray → Bool → Int → Int → List (S41) → Option (Int × (List (S41)) × Bool)
 | 0, _, _, _, _, _, _ => none
 | k + 1, x0, x4, x6, x8, x227000, x227001 => if x8 < (x4.length : Int) then (if x8 ≤ 29 then (if 0 ≤ x8 then ((spec_l2ReadEdge.f k (rdOf ByteArray.empty x4 x8)).bind fun bt228 => (if x6 = true then (if x227001.length < 8796093022208 then (spec_ParseGraph.l0 k x0 x4 bt228.2.2 (wrap64 (x8 + 1)) x227000 (x227001 ++ [(⟨bt228.1, bt228.2.1⟩ : S41)])) else (none)) else (if x227001.length < 8796093022208 then (spec_ParseGraph.l0 k x0 x4 false (wrap64 (x8 + 1)) x227000 (x227001 ++ [(⟨bt228.1, bt228.2.1⟩ : S41)])) else (none)))) else (none)) else (spec_ParseGraph.j1 k x0 x6 x227000 x227001)) else (spec_ParseGraph.j1 k x0 x6 x227000 x227001)
end
def spec_ParseGraph.f (k : Nat) (a0 : ByteArray) : Option (Int × (List (S41)) × Bool) := (spec_l1Split.f k a0 32).bind fun t217 => (if 0 < (t217.length : Int) then ((spec_l1Read.f k (rdOf ByteArray.empty t217 0)).bind fun bt221 => (spec_ParseGraph.l0 k a0 t217 bt221.2 1 bt221.1 (([] : List (S41))))) else (none))
set_option maxHeartbeats 8000000 in
set_option maxRecDepth 100000 in
theorem spec_ParseGraph.calls (k : Nat) (a0 : ByteArray) (r1 : Int) (r2 : List (S41)) (r3 : Bool) (w : World) (h : spec_ParseGraph.f k a0 = some (r1, r2, r3)) :
 Calls Tryd.prog 10 #[.string a0] w fun e w' => ∃ v1_ : Value, e = .returned (.tuple #[.agg #[.int .i64 r1, v1_], .bool r3]) ∧ Kd.R k41 41 w' w.heap.size (fun _ => True) v1_ r2 ∧ Below w.heap.size w w' := by
 have hu28 := Tryd.underlying28
 have hu41 := Tryd.underlying41
 have HB := zM (Below.refl w.heap.size w)
 have H : ((spec_l1Split.f k a0 32).bind fun t217 => (if 0 < (t217.length : Int) then ((spec_l1Read.f k (rdOf ByteArray.empty t217 0)).bind fun bt221 => (spec_ParseGraph.l0 k a0 t217 bt221.2 1 bt221.1 (([] : List (S41))))) else (none))) = some (r1, r2, r3) := h
 clear h
 replace H := Option.bind_eq_some_iff.mp H
 obtain ⟨t217, A20, H⟩ := H
 replace H : (if 0 < (t217.length : Int) then ((spec_l1Read.f k (rdOf ByteArray.empty t217 0)).bind fun bt221 => (spec_ParseGraph.l0 k a0 t217 bt221.2 1 bt221.1 (([] : List (S41))))) else (none)) = some (r1, r2, r3) := H
 have A2 := Aside0.mk A20
 clear A20
 by_cases c3 : 0 < (t217.length : Int)
 · rw [if_pos c3] at H
   have c3b0 := decide_eq_true c3
   have c3b1 : decide (0 < t217.length) = true := decide_eq_true (by omega)
   clear c3
   replace H := Option.bind_eq_some_iff.mp H
   obtain ⟨⟨t221, t222⟩, A40, H⟩ := H
   replace H : (spec_ParseGraph.l0 k a0 t217 t222 1 t221 (([] : List (S41)))) = some (r1, r2, r3) := H
   have A4 := Aside0.mk A40
   clear A40
   obtain ⟨y223, hy223⟩ : ∃ y_ : List (S41), y_ = (([] : List (S41))) := ⟨_, rfl⟩
   replace H : (spec_ParseGraph.l0 k a0 t217 t222 1 t221 y223) = some (r1, r2, r3) := by first | (rw [hy223]; with_reducible exact H) | (have H2_ := (Option.bind_some _ _).symm.trans H; rw [hy223]; with_reducible exact H2_) | (have H2_ := (Option.bind_some _ _).symm.trans H; with_reducible exact H2_) | with_reducible exact H | (rw [hy223]; exact H) | exact H
   have Ny223 := Aside0.mk hy223
   clear hy223
   have HC5 := Aside0.mk H
   clear H
   go_enter Tryd.func10, Tryd.ntmps10
   go_upto_block 0 with (first | ((with_reducible refine gate_dst (N := 2) rfl ?_); refine zb (w := w) 2 #[.int .i64 0, .slice none 0 0] 28 zB ?_; clear HB; intro gb216 w6 HB BK216 GW216; have GE216 := GW216) | ((with_reducible refine gate_callee (f := 21) rfl ?_); refine zc 12 Tryd.func21 #[.string a0, .int .u8 32] ?_; (with_reducible refine (spec_l1Split.calls k a0 32 t217 _ A2.out).mono ?_); rintro e w7 ⟨v218, rfl, ho0, hb⟩; refine ⟨_, rfl, ?_⟩; have HO219 := zM (Kd.R_lower ho0 (below_size zB)); replace BK216 := zM (blk_below (g := gb216) (o := .cells #[.int .i64 0, .slice none 0 0] 28 (0, 0)) (zK BK216.out) hb); replace HB := zM (below_step zB hb); (try clear hb); (try clear hb2); (try clear hk); (try clear hi); (try clear ho0); obtain ⟨Ao8, co8, eo8⟩ := Kd.R_slice HO219.out; subst eo8; have p220 : 0 ≤ (0 : Int) := (by omega); have q220 : 0 < (t217.length : Int) := of_decide_eq_true zA; obtain ⟨ad220, e220, hx220_0⟩ := Kd.at_string (Kd.R_reads' HO219.out).2.2 0 p220 q220; cases e220; have qi220 : (0 < t217.length) = True := eq_true (by omega); (try rw [show ((0 : Int)).toNat = 0 from rfl] at hx220_0); (try rw [Addr.add_zero'] at hx220_0); replace p220 := eq_true p220; replace q220 := eq_true q220) | ((with_reducible refine gate_callee (f := 22) rfl ?_); refine zc 17 Tryd.func22 #[.string (rdOf ByteArray.empty t217 0)] ?_; (with_reducible refine (spec_l1Read.calls k (rdOf ByteArray.empty t217 0) t221 t222 _ A4.out).mono ?_); rintro e w9 ⟨rfl, hb⟩; refine ⟨_, rfl, ?_⟩; replace HO219 := zM (Kd.R_below (zR HO219.out) hb); replace BK216 := zM (blk_below (g := gb216) (o := .cells #[.int .i64 0, .slice none 0 0] 28 (0, 0)) (zK BK216.out) hb); replace HB := zM (below_step zB hb); (try clear hb); (try clear hb2); (try clear hk); (try clear hi)) | ((with_reducible refine gate_dst (N := 21) rfl ?_); refine Kd.R_lit k41 _ 41 ?hg (N := 21) ?hd (xs := ([] : List (S41))) (inner := []) (ok := fun _ => True) (okp := fun _ => True) ?hr ?hp (fun _ hk => hk) trivial (Below.refl _ _) (Nat.le_refl _) (by simp) ?_; (case hd => rfl); (case hg => rfl); (case hr => first | (go_simp; done) | (go_simp; rfl)); (case hp => exact (Reps.none _ _)); intro v224 w10 ho11 hb hg_ hnew_; clear hg_ hnew_; (first | rw [← Ny223.out] at ho11 | (simp only [Int.reduceToNat] at ho11; rw [← Ny223.out] at ho11)); replace HO219 := zM (Kd.R_below (zR HO219.out) hb); have HO225 := zM (Kd.R_lower ho11 (below_size zB)); replace BK216 := zM (blk_below (g := gb216) (o := .cells #[.int .i64 0, .slice none 0 0] 28 (0, 0)) (zK BK216.out) hb); replace HB := zM (below_step zB hb); clear hb ho11; obtain ⟨Ao12, co12, eo12⟩ := Kd.R_slice HO225.out; subst eo12) | ((with_reducible refine gate_dst (N := 7) rfl ?_); refine ze 7 #[.int .i64 0, .slice none 0 0] 28 ?_; intro gb226 hg w13 hbox hb; replace HO219 := zM (Kd.R_below (zR HO219.out) hb); replace HO225 := zM (Kd.R_below (zR HO225.out) hb); have BK226 := zM (hbox); have GW226 := zM ((by rw [hg]; exact (below_size zB) : w.heap.size ≤ gb226)); have GE226 := zM ((by rw [hg]; exact (below_size zB) : w.heap.size ≤ gb226)); replace HB := zM (below_step zB hb); have NB216_226 := zM ((by rw [hg]; exact Nat.ne_of_lt (blk_lt (g := gb216) (o := .cells #[.int .i64 0, .slice none 0 0] 28 (0, 0)) (zK BK216.out)) : gb216 ≠ gb226)); have NB226_216 := zM ((by rw [hg]; exact Nat.ne_of_gt (blk_lt (g := gb216) (o := .cells #[.int .i64 0, .slice none 0 0] 28 (0, 0)) (zK BK216.out)) : gb226 ≠ gb216)); replace BK216 := zM (blk_below (g := gb216) (o := .cells #[.int .i64 0, .slice none 0 0] 28 (0, 0)) (zK BK216.out) hb); clear hb hbox hg; have hnb14 := NB226_216.out; have hnc14 := NB216_226.out; have hcz15_0 := zy BK226 0; have hcz15_1 := zy BK226 1; have hfz15_0 := blk_frozen BK226.out 0; have hfz15_1 := blk_frozen BK226.out 1))
   (try simp only [Act.put, List.setIfInBounds_toArray, List.set_cons_zero, List.set_cons_succ])
   go_cut [6] (fun v6 wc => ∃ (kq : Nat) (x6_4 : Bool) (x227001_4 : List (S41)) (u227001 : Value), v6 = .bool x6_4 ∧ Aside0 (spec_ParseGraph.j1 kq a0 x6_4 t221 x227001_4 = some (r1, r2, r3)) ∧ Aside0 (kq ≤ k) ∧ Aside0 (Kd.R k41 41 wc w.heap.size (fun _ => True) u227001 x227001_4) ∧ Aside0 (wc.heap[gb216]? = some (.cells #[.int .i64 0, (.slice none 0 0)] 28 (0, 0))) ∧ Aside0 (wc.heap[gb226]? = some (.cells #[.int .i64 t221, u227001] 28 (0, 0))) ∧ Aside0 (Below w.heap.size w wc))
   case first =>
    have H := HC5.out
    clear HC5
    have H' := Aside0.mk H
    clear H
    go_wp2
    go_loopg [6, 8] k (fun kq v6 v8 w' => ∃ (x6_1 : Bool) (x8_1 : Int) (x227001_1 : List (S41)) (u227001 : Value), v6 = .bool x6_1 ∧ v8 = .int .i64 x8_1 ∧ Aside0 (spec_ParseGraph.l0 kq a0 t217 x6_1 x8_1 t221 x227001_1 = some (r1, r2, r3)) ∧ Aside0 (kq ≤ k) ∧ Aside0 (Kd.R Kd.string 9 w' w.heap.size (fun _ => True) (.slice (some ad220) t217.length co8) t217) ∧ Aside0 (Kd.R k41 41 w' w.heap.size (fun _ => True) u227001 x227001_1) ∧ Aside0 (w'.heap[gb216]? = some (.cells #[.int .i64 0, (.slice none 0 0)] 28 (0, 0))) ∧ Aside0 (w'.heap[gb226]? = some (.cells #[.int .i64 t221, u227001] 28 (0, 0))) ∧ Aside0 (Below w.heap.size w w'))
    case atStart => exact ⟨(t222), (1), (y223), (.slice Ao12 y223.length co12), (by first | rfl | (simp; done) | (simp [*]; done)), (by first | rfl | (simp; done) | (simp [*]; done)), H', ⟨Nat.le_refl _⟩, ⟨by (with_reducible repeat (first | apply Kd.R_alloc | apply Kd.R_drewN | apply Kd.R_drew)); exact Kd.R_mono (Kd.R_far (p := ⟨gb226, 1, none⟩) (Kd.R_far (p := ⟨gb226, 0, none⟩) (Kd.R_types HO219.out BK226.out (by decide)) (fun _ hk => hk.2) (.int .i64 t221)) (fun _ hk => hk.2) (.slice Ao12 y223.length co12)) (fun _ hk => trivial)⟩, ⟨by (with_reducible repeat (first | apply Kd.R_alloc | apply Kd.R_drewN | apply Kd.R_drew)); exact Kd.R_mono (Kd.R_far (p := ⟨gb226, 1, none⟩) (Kd.R_far (p := ⟨gb226, 0, none⟩) (Kd.R_types HO225.out BK226.out (by decide)) (fun _ hk => hk.2) (.int .i64 t221)) (fun _ hk => hk.2) (.slice Ao12 y223.length co12)) (fun _ hk => trivial)⟩, ⟨by (with_reducible repeat (first | refine blk_drewN ?_ _ | refine blk_drew ?_ | refine blk_alloc ?_ _)); refine blk_far ?_ NB216_226.out _; (with_reducible repeat (first | refine blk_drewN ?_ _ | refine blk_drew ?_ | refine blk_alloc ?_ _)); refine blk_far ?_ NB216_226.out _; (with_reducible repeat (first | refine blk_drewN ?_ _ | refine blk_drew ?_ | refine blk_alloc ?_ _)); exact BK216.out⟩, ⟨by (with_reducible repeat (first | refine blk_drewN ?_ _ | refine blk_drew ?_ | refine blk_alloc ?_ _)); refine blk_put (cs := #[.int .i64 t221, .slice none 0 0]) ?_ 1 _ rfl; (with_reducible repeat (first | refine blk_drewN ?_ _ | refine blk_drew ?_ | refine blk_alloc ?_ _)); refine blk_put (cs := #[.int .i64 0, .slice none 0 0]) ?_ 0 _ rfl; (with_reducible repeat (first | refine blk_drewN ?_ _ | refine blk_drew ?_ | refine blk_alloc ?_ _)); exact BK226.out⟩, ⟨zB⟩⟩
    case round =>
     clear H'
     try clear c1
     try clear c2
     try clear p2
     try clear q2
     try clear hx2
     try clear qi2
     try clear c3
     try clear c3b0
     try clear c3b1
     try clear c10
     try clear c14
     try clear hcz15_0
     try clear hcz15_1
     try clear hfz15_0
     try clear hfz15_1
     try clear hx220_0
     try clear p220
     try clear q220
     obtain ⟨x6_1, x8_1, x227001_1, u227001, rfl, rfl, HA, HK1, HO_4, HO_227001, BK216, BK226, HB⟩ := hrel
     cases gk with
     | zero => exact absurd HA.out (by simp [spec_ParseGraph.l0])
     | succ k1 =>
      have H := HA.out
      clear HA
      simp only [spec_ParseGraph.l0] at H
      by_cases c16 : x8_1 < (t217.length : Int)
      · rw [if_pos c16] at H
        have c16b0 := decide_eq_true c16
        clear c16
        (first | rw [c16b0] | (simp only [i64_w, i32_w]; rw [c16b0]) | skip)
        by_cases c17 : x8_1 ≤ 29
        · rw [if_pos c17] at H
          have c17b0 := decide_eq_true c17
          clear c17
          by_cases c18 : 0 ≤ x8_1
          · rw [if_pos c18] at H
            have c18b0 := decide_eq_true c18
            clear c18
            replace H := Option.bind_eq_some_iff.mp H
            obtain ⟨⟨t228, t229, t230⟩, A190, H⟩ := H
            replace H : (if x6_1 = true then (if x227001_1.length < 8796093022208 then (spec_ParseGraph.l0 k1 a0 t217 t230 (wrap64 (x8_1 + 1)) t221 (x227001_1 ++ [(⟨t228, t229⟩ : S41)])) else (none)) else (if x227001_1.length < 8796093022208 then (spec_ParseGraph.l0 k1 a0 t217 false (wrap64 (x8_1 + 1)) t221 (x227001_1 ++ [(⟨t228, t229⟩ : S41)])) else (none))) = some (r1, r2, r3) := H
            have A19 := Aside0.mk A190
            clear A190
            by_cases c20 : x6_1 = true
            · subst c20
              have H1 : (if x227001_1.length < 8796093022208 then (spec_ParseGraph.l0 k1 a0 t217 t230 (wrap64 (x8_1 + 1)) t221 (x227001_1 ++ [(⟨t228, t229⟩ : S41)])) else (none)) = some (r1, r2, r3) := by rw [if_pos rfl] at H; exact H
              clear H
              have H := H1
              clear H1
              by_cases c21 : x227001_1.length < 8796093022208
              · rw [if_pos c21] at H
                have LMc21 := Aside0.mk c21
                clear c21
                obtain ⟨y232, hy232⟩ : ∃ y_ : List (S41), y_ = (x227001_1 ++ [(⟨t228, t229⟩ : S41)]) := ⟨_, rfl⟩
                replace H : (spec_ParseGraph.l0 k1 a0 t217 t230 (wrap64 (x8_1 + 1)) t221 y232) = some (r1, r2, r3) := by first | (rw [hy232]; with_reducible exact H) | (have H2_ := (Option.bind_some _ _).symm.trans H; rw [hy232]; with_reducible exact H2_) | (have H2_ := (Option.bind_some _ _).symm.trans H; with_reducible exact H2_) | with_reducible exact H | (rw [hy232]; exact H) | exact H
                have Ny232 := Aside0.mk hy232
                clear hy232
                have H' := Aside0.mk H
                clear H
                have p227 : 0 ≤ (x8_1 : Int) := of_decide_eq_true zA
                have q227 : x8_1 < (t217.length : Int) := of_decide_eq_true zA
                obtain ⟨ad227, e227, hx227_0⟩ := Kd.at_string (Kd.R_reads' HO_4.out).2.2 x8_1 p227 q227
                obtain rfl : ad220 = ad227 := (by injection e227)
                replace p227 := eq_true p227
                replace q227 := eq_true q227
                go_wp2_with (first | ((with_reducible refine gate_callee (f := 23) rfl ?_); refine zc 38 Tryd.func23 #[.string (rdOf ByteArray.empty t217 x8_1)] ?_; (with_reducible refine (spec_l2ReadEdge.calls k1 (rdOf ByteArray.empty t217 x8_1) t228 t229 t230 _ A19.out).mono ?_); rintro e w22 ⟨rfl, hb⟩; refine ⟨_, rfl, ?_⟩; replace HO_4 := zM (Kd.R_below (zR HO_4.out) hb); replace HO_227001 := zM (Kd.R_below (zR HO_227001.out) hb); replace BK216 := zM (blk_below (g := gb216) (o := .cells #[.int .i64 0, .slice none 0 0] 28 (0, 0)) (zK BK216.out) hb); replace BK226 := zM (blk_below (g := gb226) (o := .cells #[.int .i64 t221, u227001] 28 (0, 0)) (zK BK226.out) hb); replace HB := zM (below_step zB hb); (try clear hb); (try clear hb2); (try clear hk); (try clear hi)) | ((with_reducible refine gate_dst (N := 9) rfl ?_); refine ze 9 #[.int .i64 0, .int .i64 0] 41 ?_; intro gb231 hg w23 hbox hb; replace HO_4 := zM (Kd.R_below (zR HO_4.out) hb); replace HO_227001 := zM (Kd.R_below (Kd.R_elderB (zR HO_227001.out) gb231 (Nat.le_of_eq hg.symm)) hb); have BK231 := zM (hbox); have GW231 := zM ((by rw [hg]; exact (below_size zB) : w.heap.size ≤ gb231)); have GE231 := zM ((by rw [hg]; exact (below_size zB) : w.heap.size ≤ gb231)); replace HB := zM (below_step zB hb); have NB216_231 := zM ((by rw [hg]; exact Nat.ne_of_lt (blk_lt (g := gb216) (o := .cells #[.int .i64 0, .slice none 0 0] 28 (0, 0)) (zK BK216.out)) : gb216 ≠ gb231)); have NB231_216 := zM ((by rw [hg]; exact Nat.ne_of_gt (blk_lt (g := gb216) (o := .cells #[.int .i64 0, .slice none 0 0] 28 (0, 0)) (zK BK216.out)) : gb231 ≠ gb216)); replace BK216 := zM (blk_below (g := gb216) (o := .cells #[.int .i64 0, .slice none 0 0] 28 (0, 0)) (zK BK216.out) hb); have NB226_231 := zM ((by rw [hg]; exact Nat.ne_of_lt (blk_lt (g := gb226) (o := .cells #[.int .i64 t221, u227001] 28 (0, 0)) (zK BK226.out)) : gb226 ≠ gb231)); have NB231_226 := zM ((by rw [hg]; exact Nat.ne_of_gt (blk_lt (g := gb226) (o := .cells #[.int .i64 t221, u227001] 28 (0, 0)) (zK BK226.out)) : gb231 ≠ gb226)); replace BK226 := zM (blk_below (g := gb226) (o := .cells #[.int .i64 t221, u227001] 28 (0, 0)) (zK BK226.out) hb); clear hb hbox hg; have hnb24 := NB231_216.out; have hnc24 := NB216_231.out; have hnb25 := NB231_226.out; have hnc25 := NB226_231.out; have hcz26_0 := zy BK231 0; have hcz26_1 := zy BK231 1; have hfz26_0 := blk_frozen BK231.out 0; have hfz26_1 := blk_frozen BK231.out 1; have hnb27 := NB226_216.out; have hnc27 := NB216_226.out; have hcz28_0 := zy BK226 0; have hcz28_1 := zy BK226 1; have hfz28_0 := blk_frozen BK226.out 0; have hfz28_1 := blk_frozen BK226.out 1) | ((with_reducible refine gate_builtin (b := .append) (xs := #[.tmp 46, .tmp 48]) rfl ?_); at_builtin; refine Kd.R_append k41 (w0 := w) w.heap.size rfl (.tmp 46) (.tmp 48) 22 41 (.agg #[(.int .i64 0), (.int .i64 0)]) 16 rfl Tryd.underlying22 info41 rfl (by decide) (by omega) u227001 x227001_1 (⟨t228, t229⟩ : S41) [.int .i64 t228, .int .i64 t229] (fun k_ => k_ ≠ gb231) (fun _ => False) rfl (by first | (go_simp; done) | (go_simp; rfl)) ?aP (fun _ hk => hk.elim) ?aF ?aO ?aB ?aS ?aL ?_; (case aP => exact k41_mkM _ _ _ (⟨t228, t229⟩ : S41)); (case aB => exact zB); (case aF => exact (fun k_ hk => Kd.freshB (g := gb231) (o := .cells #[.int .i64 t228, .int .i64 t229] 41 (0, 0)) (by (with_reducible repeat (first | refine blk_drewN ?_ _ | refine blk_drew ?_ | refine blk_alloc ?_ _)); refine blk_put (cs := #[.int .i64 t228, .int .i64 0]) ?_ 1 _ rfl; (with_reducible repeat (first | refine blk_drewN ?_ _ | refine blk_drew ?_ | refine blk_alloc ?_ _)); refine blk_put (cs := #[.int .i64 0, .int .i64 0]) ?_ 0 _ rfl; (with_reducible repeat (first | refine blk_drewN ?_ _ | refine blk_drew ?_ | refine blk_alloc ?_ _)); exact BK231.out) k_ hk)); (case aO => exact (by (with_reducible repeat (first | apply Kd.R_alloc | apply Kd.R_drewN | apply Kd.R_drew)); exact Kd.R_mono (Kd.R_far (p := ⟨gb231, 1, none⟩) (Kd.R_far (p := ⟨gb231, 0, none⟩) (Kd.R_mono HO_227001.out (fun k_ hk => (⟨hk, hk.2⟩ : _ ∧ k_ ≠ gb231))) (fun _ hk => hk.2) (.int .i64 t228)) (fun _ hk => hk.2) (.int .i64 t229)) (fun _ hk => hk.1.2))); (case aS => exact (below_size zB)); (case aL => have := LMc21.out; omega); intro v233 w29 ho hb hg hat; rw [← Ny232.out] at ho; replace HO_4 := zM (Kd.R_over' (by (with_reducible repeat (first | apply Kd.R_alloc | apply Kd.R_drewN | apply Kd.R_drew)); exact (Kd.R_mono (Kd.R_far (p := ⟨gb231, 1, none⟩) (Kd.R_far (p := ⟨gb231, 0, none⟩) (Kd.R_types HO_4.out BK231.out (by decide)) (fun _ hk => hk.2) (.int .i64 t228)) (fun _ hk => hk.2) (.int .i64 t229)) (fun _ h_ => h_.1))) (Kd.R_typed (by (with_reducible repeat (first | apply Kd.R_alloc | apply Kd.R_drewN | apply Kd.R_drew)); exact (Kd.R_mono (Kd.R_far (p := ⟨gb231, 1, none⟩) (Kd.R_far (p := ⟨gb231, 0, none⟩) (Kd.R_mono HO_227001.out (fun k_ hk => (⟨hk, hk.2⟩ : _ ∧ k_ ≠ gb231))) (fun _ hk => hk.2) (.int .i64 t228)) (fun _ hk => hk.2) (.int .i64 t229)) (fun _ h_ => h_.1)))) (by decide) hg); replace BK216 := zM (blk_grown (g := gb216) (o := .cells #[.int .i64 0, .slice none 0 0] 28 (0, 0)) (by (with_reducible repeat (first | refine blk_drewN ?_ _ | refine blk_drew ?_ | refine blk_alloc ?_ _)); refine blk_far ?_ NB216_231.out _; (with_reducible repeat (first | refine blk_drewN ?_ _ | refine blk_drew ?_ | refine blk_alloc ?_ _)); refine blk_far ?_ NB216_231.out _; (with_reducible repeat (first | refine blk_drewN ?_ _ | refine blk_drew ?_ | refine blk_alloc ?_ _)); exact BK216.out) hg (Kd.R_ne HO_227001.out BK216.out (by decide))); replace BK226 := zM (blk_grown (g := gb226) (o := .cells #[.int .i64 t221, u227001] 28 (0, 0)) (by (with_reducible repeat (first | refine blk_drewN ?_ _ | refine blk_drew ?_ | refine blk_alloc ?_ _)); refine blk_far ?_ NB226_231.out _; (with_reducible repeat (first | refine blk_drewN ?_ _ | refine blk_drew ?_ | refine blk_alloc ?_ _)); refine blk_far ?_ NB226_231.out _; (with_reducible repeat (first | refine blk_drewN ?_ _ | refine blk_drew ?_ | refine blk_alloc ?_ _)); exact BK226.out) hg (Kd.R_ne HO_227001.out BK226.out (by decide))); replace BK231 := zM (blk_grown (g := gb231) (o := .cells #[.int .i64 t228, .int .i64 t229] 41 (0, 0)) (by (with_reducible repeat (first | refine blk_drewN ?_ _ | refine blk_drew ?_ | refine blk_alloc ?_ _)); refine blk_put (cs := #[.int .i64 t228, .int .i64 0]) ?_ 1 _ rfl; (with_reducible repeat (first | refine blk_drewN ?_ _ | refine blk_drew ?_ | refine blk_alloc ?_ _)); refine blk_put (cs := #[.int .i64 0, .int .i64 0]) ?_ 0 _ rfl; (with_reducible repeat (first | refine blk_drewN ?_ _ | refine blk_drew ?_ | refine blk_alloc ?_ _)); exact BK231.out) hg (Kd.R_away HO_227001.out (fun _ hk => hk.2))); replace HB := zM (hb); have HO234 := zM (ho); clear HO_227001; clear ho hb hg hat; obtain ⟨Ao30, co30, eo30⟩ := Kd.R_slice HO234.out; subst eo30; have hcz31_0 := zy BK226 0; have hcz31_1 := zy BK226 1; have hfz31_0 := blk_frozen BK226.out 0; have hfz31_1 := blk_frozen BK226.out 1))
                go_roundg k1
                case measure => have := HK1.out; omega
                case rel => exact ⟨(t230), (wrap64 (x8_1 + 1)), (y232), (.slice Ao30 y232.length co30), (by first | rfl | (simp; done) | (simp [*]; done)), (by first | rfl | (simp; done) | (simp [*]; done)), H', ⟨by have := HK1.out; omega⟩, ⟨by (with_reducible repeat (first | apply Kd.R_alloc | apply Kd.R_drewN | apply Kd.R_drew)); exact Kd.R_mono (Kd.R_far (p := ⟨gb226, 1, none⟩) (Kd.R_types HO_4.out BK226.out (by decide)) (fun _ hk => hk.2) (.slice Ao30 y232.length co30)) (fun _ hk => trivial)⟩, ⟨by (with_reducible repeat (first | apply Kd.R_alloc | apply Kd.R_drewN | apply Kd.R_drew)); exact Kd.R_mono (Kd.R_far (p := ⟨gb226, 1, none⟩) (Kd.R_types HO234.out BK226.out (by decide)) (fun _ hk => hk.2) (.slice Ao30 y232.length co30)) (fun _ hk => trivial)⟩, ⟨by (with_reducible repeat (first | refine blk_drewN ?_ _ | refine blk_drew ?_ | refine blk_alloc ?_ _)); refine blk_far ?_ NB216_226.out _; (with_reducible repeat (first | refine blk_drewN ?_ _ | refine blk_drew ?_ | refine blk_alloc ?_ _)); exact BK216.out⟩, ⟨by (with_reducible repeat (first | refine blk_drewN ?_ _ | refine blk_drew ?_ | refine blk_alloc ?_ _)); refine blk_put (cs := #[.int .i64 t221, u227001]) ?_ 1 _ rfl; (with_reducible repeat (first | refine blk_drewN ?_ _ | refine blk_drew ?_ | refine blk_alloc ?_ _)); exact BK226.out⟩, ⟨zB⟩⟩
              · rw [if_neg c21] at H
                exact absurd H (by simp)
            · replace c20 := Bool.eq_false_iff.mpr c20
              subst c20
              have H1 : (if x227001_1.length < 8796093022208 then (spec_ParseGraph.l0 k1 a0 t217 false (wrap64 (x8_1 + 1)) t221 (x227001_1 ++ [(⟨t228, t229⟩ : S41)])) else (none)) = some (r1, r2, r3) := by rw [if_neg (show ¬ (false = true) by decide)] at H; exact H
              clear H
              have H := H1
              clear H1
              by_cases c32 : x227001_1.length < 8796093022208
              · rw [if_pos c32] at H
                have LMc32 := Aside0.mk c32
                clear c32
                obtain ⟨y235, hy235⟩ : ∃ y_ : List (S41), y_ = (x227001_1 ++ [(⟨t228, t229⟩ : S41)]) := ⟨_, rfl⟩
                replace H : (spec_ParseGraph.l0 k1 a0 t217 false (wrap64 (x8_1 + 1)) t221 y235) = some (r1, r2, r3) := by first | (rw [hy235]; with_reducible exact H) | (have H2_ := (Option.bind_some _ _).symm.trans H; rw [hy235]; with_reducible exact H2_) | (have H2_ := (Option.bind_some _ _).symm.trans H; with_reducible exact H2_) | with_reducible exact H | (rw [hy235]; exact H) | exact H
                have Ny235 := Aside0.mk hy235
                clear hy235
                have H' := Aside0.mk H
                clear H
                have p227 : 0 ≤ (x8_1 : Int) := of_decide_eq_true zA
                have q227 : x8_1 < (t217.length : Int) := of_decide_eq_true zA
                obtain ⟨ad227, e227, hx227_0⟩ := Kd.at_string (Kd.R_reads' HO_4.out).2.2 x8_1 p227 q227
                obtain rfl : ad220 = ad227 := (by injection e227)
                replace p227 := eq_true p227
                replace q227 := eq_true q227
                go_wp2_with (first | ((with_reducible refine gate_callee (f := 23) rfl ?_); refine zc 38 Tryd.func23 #[.string (rdOf ByteArray.empty t217 x8_1)] ?_; (with_reducible refine (spec_l2ReadEdge.calls k1 (rdOf ByteArray.empty t217 x8_1) t228 t229 t230 _ A19.out).mono ?_); rintro e w33 ⟨rfl, hb⟩; refine ⟨_, rfl, ?_⟩; replace HO_4 := zM (Kd.R_below (zR HO_4.out) hb); replace HO_227001 := zM (Kd.R_below (zR HO_227001.out) hb); replace BK216 := zM (blk_below (g := gb216) (o := .cells #[.int .i64 0, .slice none 0 0] 28 (0, 0)) (zK BK216.out) hb); replace BK226 := zM (blk_below (g := gb226) (o := .cells #[.int .i64 t221, u227001] 28 (0, 0)) (zK BK226.out) hb); replace HB := zM (below_step zB hb); (try clear hb); (try clear hb2); (try clear hk); (try clear hi)) | ((with_reducible refine gate_dst (N := 9) rfl ?_); refine ze 9 #[.int .i64 0, .int .i64 0] 41 ?_; intro gb231 hg w34 hbox hb; replace HO_4 := zM (Kd.R_below (zR HO_4.out) hb); replace HO_227001 := zM (Kd.R_below (Kd.R_elderB (zR HO_227001.out) gb231 (Nat.le_of_eq hg.symm)) hb); have BK231 := zM (hbox); have GW231 := zM ((by rw [hg]; exact (below_size zB) : w.heap.size ≤ gb231)); have GE231 := zM ((by rw [hg]; exact (below_size zB) : w.heap.size ≤ gb231)); replace HB := zM (below_step zB hb); have NB216_231 := zM ((by rw [hg]; exact Nat.ne_of_lt (blk_lt (g := gb216) (o := .cells #[.int .i64 0, .slice none 0 0] 28 (0, 0)) (zK BK216.out)) : gb216 ≠ gb231)); have NB231_216 := zM ((by rw [hg]; exact Nat.ne_of_gt (blk_lt (g := gb216) (o := .cells #[.int .i64 0, .slice none 0 0] 28 (0, 0)) (zK BK216.out)) : gb231 ≠ gb216)); replace BK216 := zM (blk_below (g := gb216) (o := .cells #[.int .i64 0, .slice none 0 0] 28 (0, 0)) (zK BK216.out) hb); have NB226_231 := zM ((by rw [hg]; exact Nat.ne_of_lt (blk_lt (g := gb226) (o := .cells #[.int .i64 t221, u227001] 28 (0, 0)) (zK BK226.out)) : gb226 ≠ gb231)); have NB231_226 := zM ((by rw [hg]; exact Nat.ne_of_gt (blk_lt (g := gb226) (o := .cells #[.int .i64 t221, u227001] 28 (0, 0)) (zK BK226.out)) : gb231 ≠ gb226)); replace BK226 := zM (blk_below (g := gb226) (o := .cells #[.int .i64 t221, u227001] 28 (0, 0)) (zK BK226.out) hb); clear hb hbox hg; have hnb35 := NB231_216.out; have hnc35 := NB216_231.out; have hnb36 := NB231_226.out; have hnc36 := NB226_231.out; have hcz37_0 := zy BK231 0; have hcz37_1 := zy BK231 1; have hfz37_0 := blk_frozen BK231.out 0; have hfz37_1 := blk_frozen BK231.out 1; have hnb38 := NB226_216.out; have hnc38 := NB216_226.out; have hcz39_0 := zy BK226 0; have hcz39_1 := zy BK226 1; have hfz39_0 := blk_frozen BK226.out 0; have hfz39_1 := blk_frozen BK226.out 1) | ((with_reducible refine gate_builtin (b := .append) (xs := #[.tmp 46, .tmp 48]) rfl ?_); at_builtin; refine Kd.R_append k41 (w0 := w) w.heap.size rfl (.tmp 46) (.tmp 48) 22 41 (.agg #[(.int .i64 0), (.int .i64 0)]) 16 rfl Tryd.underlying22 info41 rfl (by decide) (by omega) u227001 x227001_1 (⟨t228, t229⟩ : S41) [.int .i64 t228, .int .i64 t229] (fun k_ => k_ ≠ gb231) (fun _ => False) rfl (by first | (go_simp; done) | (go_simp; rfl)) ?aP (fun _ hk => hk.elim) ?aF ?aO ?aB ?aS ?aL ?_; (case aP => exact k41_mkM _ _ _ (⟨t228, t229⟩ : S41)); (case aB => exact zB); (case aF => exact (fun k_ hk => Kd.freshB (g := gb231) (o := .cells #[.int .i64 t228, .int .i64 t229] 41 (0, 0)) (by (with_reducible repeat (first | refine blk_drewN ?_ _ | refine blk_drew ?_ | refine blk_alloc ?_ _)); refine blk_put (cs := #[.int .i64 t228, .int .i64 0]) ?_ 1 _ rfl; (with_reducible repeat (first | refine blk_drewN ?_ _ | refine blk_drew ?_ | refine blk_alloc ?_ _)); refine blk_put (cs := #[.int .i64 0, .int .i64 0]) ?_ 0 _ rfl; (with_reducible repeat (first | refine blk_drewN ?_ _ | refine blk_drew ?_ | refine blk_alloc ?_ _)); exact BK231.out) k_ hk)); (case aO => exact (by (with_reducible repeat (first | apply Kd.R_alloc | apply Kd.R_drewN | apply Kd.R_drew)); exact Kd.R_mono (Kd.R_far (p := ⟨gb231, 1, none⟩) (Kd.R_far (p := ⟨gb231, 0, none⟩) (Kd.R_mono HO_227001.out (fun k_ hk => (⟨hk, hk.2⟩ : _ ∧ k_ ≠ gb231))) (fun _ hk => hk.2) (.int .i64 t228)) (fun _ hk => hk.2) (.int .i64 t229)) (fun _ hk => hk.1.2))); (case aS => exact (below_size zB)); (case aL => have := LMc32.out; omega); intro v236 w40 ho hb hg hat; rw [← Ny235.out] at ho; replace HO_4 := zM (Kd.R_over' (by (with_reducible repeat (first | apply Kd.R_alloc | apply Kd.R_drewN | apply Kd.R_drew)); exact (Kd.R_mono (Kd.R_far (p := ⟨gb231, 1, none⟩) (Kd.R_far (p := ⟨gb231, 0, none⟩) (Kd.R_types HO_4.out BK231.out (by decide)) (fun _ hk => hk.2) (.int .i64 t228)) (fun _ hk => hk.2) (.int .i64 t229)) (fun _ h_ => h_.1))) (Kd.R_typed (by (with_reducible repeat (first | apply Kd.R_alloc | apply Kd.R_drewN | apply Kd.R_drew)); exact (Kd.R_mono (Kd.R_far (p := ⟨gb231, 1, none⟩) (Kd.R_far (p := ⟨gb231, 0, none⟩) (Kd.R_mono HO_227001.out (fun k_ hk => (⟨hk, hk.2⟩ : _ ∧ k_ ≠ gb231))) (fun _ hk => hk.2) (.int .i64 t228)) (fun _ hk => hk.2) (.int .i64 t229)) (fun _ h_ => h_.1)))) (by decide) hg); replace BK216 := zM (blk_grown (g := gb216) (o := .cells #[.int .i64 0, .slice none 0 0] 28 (0, 0)) (by (with_reducible repeat (first | refine blk_drewN ?_ _ | refine blk_drew ?_ | refine blk_alloc ?_ _)); refine blk_far ?_ NB216_231.out _; (with_reducible repeat (first | refine blk_drewN ?_ _ | refine blk_drew ?_ | refine blk_alloc ?_ _)); refine blk_far ?_ NB216_231.out _; (with_reducible repeat (first | refine blk_drewN ?_ _ | refine blk_drew ?_ | refine blk_alloc ?_ _)); exact BK216.out) hg (Kd.R_ne HO_227001.out BK216.out (by decide))); replace BK226 := zM (blk_grown (g := gb226) (o := .cells #[.int .i64 t221, u227001] 28 (0, 0)) (by (with_reducible repeat (first | refine blk_drewN ?_ _ | refine blk_drew ?_ | refine blk_alloc ?_ _)); refine blk_far ?_ NB226_231.out _; (with_reducible repeat (first | refine blk_drewN ?_ _ | refine blk_drew ?_ | refine blk_alloc ?_ _)); refine blk_far ?_ NB226_231.out _; (with_reducible repeat (first | refine blk_drewN ?_ _ | refine blk_drew ?_ | refine blk_alloc ?_ _)); exact BK226.out) hg (Kd.R_ne HO_227001.out BK226.out (by decide))); replace BK231 := zM (blk_grown (g := gb231) (o := .cells #[.int .i64 t228, .int .i64 t229] 41 (0, 0)) (by (with_reducible repeat (first | refine blk_drewN ?_ _ | refine blk_drew ?_ | refine blk_alloc ?_ _)); refine blk_put (cs := #[.int .i64 t228, .int .i64 0]) ?_ 1 _ rfl; (with_reducible repeat (first | refine blk_drewN ?_ _ | refine blk_drew ?_ | refine blk_alloc ?_ _)); refine blk_put (cs := #[.int .i64 0, .int .i64 0]) ?_ 0 _ rfl; (with_reducible repeat (first | refine blk_drewN ?_ _ | refine blk_drew ?_ | refine blk_alloc ?_ _)); exact BK231.out) hg (Kd.R_away HO_227001.out (fun _ hk => hk.2))); replace HB := zM (hb); have HO237 := zM (ho); clear HO_227001; clear ho hb hg hat; obtain ⟨Ao41, co41, eo41⟩ := Kd.R_slice HO237.out; subst eo41; have hcz42_0 := zy BK226 0; have hcz42_1 := zy BK226 1; have hfz42_0 := blk_frozen BK226.out 0; have hfz42_1 := blk_frozen BK226.out 1))
                go_roundg k1
                case measure => have := HK1.out; omega
                case rel => exact ⟨(false), (wrap64 (x8_1 + 1)), (y235), (.slice Ao41 y235.length co41), (by first | rfl | (simp; done) | (simp [*]; done)), (by first | rfl | (simp; done) | (simp [*]; done)), H', ⟨by have := HK1.out; omega⟩, ⟨by (with_reducible repeat (first | apply Kd.R_alloc | apply Kd.R_drewN | apply Kd.R_drew)); exact Kd.R_mono (Kd.R_far (p := ⟨gb226, 1, none⟩) (Kd.R_types HO_4.out BK226.out (by decide)) (fun _ hk => hk.2) (.slice Ao41 y235.length co41)) (fun _ hk => trivial)⟩, ⟨by (with_reducible repeat (first | apply Kd.R_alloc | apply Kd.R_drewN | apply Kd.R_drew)); exact Kd.R_mono (Kd.R_far (p := ⟨gb226, 1, none⟩) (Kd.R_types HO237.out BK226.out (by decide)) (fun _ hk => hk.2) (.slice Ao41 y235.length co41)) (fun _ hk => trivial)⟩, ⟨by (with_reducible repeat (first | refine blk_drewN ?_ _ | refine blk_drew ?_ | refine blk_alloc ?_ _)); refine blk_far ?_ NB216_226.out _; (with_reducible repeat (first | refine blk_drewN ?_ _ | refine blk_drew ?_ | refine blk_alloc ?_ _)); exact BK216.out⟩, ⟨by (with_reducible repeat (first | refine blk_drewN ?_ _ | refine blk_drew ?_ | refine blk_alloc ?_ _)); refine blk_put (cs := #[.int .i64 t221, u227001]) ?_ 1 _ rfl; (with_reducible repeat (first | refine blk_drewN ?_ _ | refine blk_drew ?_ | refine blk_alloc ?_ _)); exact BK226.out⟩, ⟨zB⟩⟩
              · rw [if_neg c32] at H
                exact absurd H (by simp)
          · rw [if_neg c18] at H
            exact absurd H (by simp)
        · rw [if_neg c17] at H
          have c17b0 : decide (x8_1 ≤ 29) = false := decide_eq_false c17
          clear c17
          have H' := Aside0.mk H
          clear H
          go_wp2
          go_meet
          case rel => exact ⟨_, (x6_1), (x227001_1), (u227001), (by first | rfl | (simp; done) | (simp [*]; done)), H', ⟨by have := HK1.out; first | omega | exact Nat.le_refl _⟩, ⟨zR HO_227001.out⟩, ⟨zK BK216.out⟩, ⟨zK BK226.out⟩, ⟨zB⟩⟩
      · rw [if_neg c16] at H
        have c16b0 : decide (x8_1 < (t217.length : Int)) = false := decide_eq_false c16
        clear c16
        (first | rw [c16b0] | (simp only [i64_w, i32_w]; rw [c16b0]) | skip)
        have H' := Aside0.mk H
        clear H
        go_wp2
        go_meet
        case rel => exact ⟨_, (x6_1), (x227001_1), (u227001), (by first | rfl | (simp; done) | (simp [*]; done)), H', ⟨by have := HK1.out; first | omega | exact Nat.le_refl _⟩, ⟨zR HO_227001.out⟩, ⟨zK BK216.out⟩, ⟨zK BK226.out⟩, ⟨zB⟩⟩
   case rest =>
    clear HC5
    try clear c1
    try clear c2
    try clear p2
    try clear q2
    try clear hx2
    try clear qi2
    try clear c3
    try clear c3b0
    try clear c3b1
    try clear p6
    try clear c10
    try clear c14
    try clear c16
    try clear c16b0
    try clear c17
    try clear c17b0
    try clear c18
    try clear c18b0
    try clear c20
    try clear c21
    try clear c22
    try clear p22
    try clear q22
    try clear hx22
    try clear qi22
    try clear c23
    try clear c24
    try clear c25
    try clear c27
    try clear c32
    try clear c35
    try clear c36
    try clear c38
    try clear hcz15_0
    try clear hcz15_1
    try clear hcz26_0
    try clear hcz26_1
    try clear hcz28_0
    try clear hcz28_1
    try clear hcz31_0
    try clear hcz31_1
    try clear hcz37_0
    try clear hcz37_1
    try clear hcz39_0
    try clear hcz39_1
    try clear hcz42_0
    try clear hcz42_1
    try clear hfz15_0
    try clear hfz15_1
    try clear hfz26_0
    try clear hfz26_1
    try clear hfz28_0
    try clear hfz28_1
    try clear hfz31_0
    try clear hfz31_1
    try clear hfz37_0
    try clear hfz37_1
    try clear hfz39_0
    try clear hfz39_1
    try clear hfz42_0
    try clear hfz42_1
    try clear hx220_0
    try clear hx227_0
    try clear p2
    try clear p220
    try clear p227
    try clear q2
    try clear q220
    try clear q227
    obtain ⟨kq, x6_4, x227001_4, u227001, rfl, HA, HJ4, HO_227001, BK216, BK226, HB⟩ := hcut
    cases kq with
    | zero => exact absurd HA.out (by simp [spec_ParseGraph.j1])
    | succ kj4 =>
     have H := HA.out
     clear HA
     simp only [spec_ParseGraph.j1] at H
     by_cases c43 : x6_4 = true
     · subst c43
       have H1 : ((spec_l2Good.f kj4 t221 x227001_4).bind fun t238 => (if t238 = true then ((spec_l2Text.f kj4 t221 x227001_4).bind fun t239 => (if t239.toList = a0.toList then (some (t221, x227001_4, true)) else (some (0, ([] : List (S41)), false)))) else (some (0, ([] : List (S41)), false)))) = some (r1, r2, r3) := by rw [if_pos rfl] at H; exact H
       clear H
       have H := H1
       clear H1
       replace H := Option.bind_eq_some_iff.mp H
       obtain ⟨t238, A440, H⟩ := H
       replace H : (if t238 = true then ((spec_l2Text.f kj4 t221 x227001_4).bind fun t239 => (if t239.toList = a0.toList then (some (t221, x227001_4, true)) else (some (0, ([] : List (S41)), false)))) else (some (0, ([] : List (S41)), false))) = some (r1, r2, r3) := H
       have A44 := Aside0.mk A440
       clear A440
       by_cases c45 : t238 = true
       · subst c45
         have H1 : ((spec_l2Text.f kj4 t221 x227001_4).bind fun t239 => (if t239.toList = a0.toList then (some (t221, x227001_4, true)) else (some (0, ([] : List (S41)), false)))) = some (r1, r2, r3) := by rw [if_pos rfl] at H; exact H
         clear H
         have H := H1
         clear H1
         replace H := Option.bind_eq_some_iff.mp H
         obtain ⟨t239, A460, H⟩ := H
         replace H : (if t239.toList = a0.toList then (some (t221, x227001_4, true)) else (some (0, ([] : List (S41)), false))) = some (r1, r2, r3) := H
         have A46 := Aside0.mk A460
         clear A460
         by_cases c47 : t239.toList = a0.toList
         · rw [if_pos c47] at H
           have c47b0 : (t239.toList == a0.toList) = true := beq_iff_eq.mpr c47
           have c47b1 : (t239.toList != a0.toList) = false := bne_eq_false_iff_eq.mpr c47
           clear c47
           simp only [Option.some.injEq, Prod.mk.injEq] at H
           obtain ⟨rfl, rfl, rfl⟩ := H
           have hnb48 := NB226_216.out
           have hnc48 := NB216_226.out
           have hcz49_0 := zy BK226 0
           have hcz49_1 := zy BK226 1
           have hfz49_0 := blk_frozen BK226.out 0
           have hfz49_1 := blk_frozen BK226.out 1
           obtain ⟨Ao50, co50, eo50⟩ := Kd.R_slice HO_227001.out
           subst eo50
           go_wp2_with (first | (go_at_call 15; (with_reducible refine (spec_l2Good.calls kj4 t221 _ _ x227001_4 true _ ?side1 ?side2 A44.out).mono ?_); (case side1 => exact zC (Kd.R_reads' HO_227001.out).2.2); (case side2 => exact (Kd.R_reads' HO_227001.out).2.1); rintro e w51 ⟨rfl, hb⟩; replace HO_227001 := zM (Kd.R_below (zR HO_227001.out) hb); replace BK216 := zM (blk_below (g := gb216) (o := .cells #[.int .i64 0, .slice none 0 0] 28 (0, 0)) (zK BK216.out) hb); replace BK226 := zM (blk_below (g := gb226) (o := .cells #[.int .i64 t221, .slice Ao50 x227001_4.length co50] 28 (0, 0)) (zK BK226.out) hb); replace HB := zM (below_step zB hb); (try clear hb); (try clear hb2); (try clear hk); (try clear hi); have hcz52_0 := zy BK226 0; have hcz52_1 := zy BK226 1; have hfz52_0 := blk_frozen BK226.out 0; have hfz52_1 := blk_frozen BK226.out 1) | (go_at_call 16; (with_reducible refine (spec_l2Text.calls kj4 t221 _ _ x227001_4 t239 _ ?side1 ?side2 A46.out).mono ?_); (case side1 => exact zC (Kd.R_reads' HO_227001.out).2.2); (case side2 => exact (Kd.R_reads' HO_227001.out).2.1); rintro e w53 ⟨rfl, hb⟩; replace HO_227001 := zM (Kd.R_below (zR HO_227001.out) hb); replace BK216 := zM (blk_below (g := gb216) (o := .cells #[.int .i64 0, .slice none 0 0] 28 (0, 0)) (zK BK216.out) hb); replace BK226 := zM (blk_below (g := gb226) (o := .cells #[.int .i64 t221, .slice Ao50 x227001_4.length co50] 28 (0, 0)) (zK BK226.out) hb); replace HB := zM (below_step zB hb); (try clear hb); (try clear hb2); (try clear hk); (try clear hi); have hcz54_0 := zy BK226 0; have hcz54_1 := zy BK226 1; have hfz54_0 := blk_frozen BK226.out 0; have hfz54_1 := blk_frozen BK226.out 1; have hcz55_0 := zy BK216 0; have hcz55_1 := zy BK216 1; have hfz55_0 := blk_frozen BK216.out 0; have hfz55_1 := blk_frozen BK216.out 1))
           refine bodyPost_ret (results_ct rfl _ _ gb216 28 #[.int .i64 t221, .slice Ao50 x227001_4.length co50] (0, 0) _ rfl (by (with_reducible repeat (first | refine blk_drewN ?_ _ | refine blk_drew ?_ | refine blk_alloc ?_ _)); refine blk_put (cs := #[.int .i64 t221, .slice none 0 0]) ?_ 1 _ rfl; (with_reducible repeat (first | refine blk_drewN ?_ _ | refine blk_drew ?_ | refine blk_alloc ?_ _)); refine blk_put (cs := #[.int .i64 0, .slice none 0 0]) ?_ 0 _ rfl; (with_reducible repeat (first | refine blk_drewN ?_ _ | refine blk_drew ?_ | refine blk_alloc ?_ _)); exact BK216.out) Tryd.underlying28 rfl (by kernel_rfl)) rfl ?_
           exact ⟨_, by first | rfl | (simp [errW_none, errW_some] <;> rfl) | (simp [*, errW_none, errW_some] <;> rfl), by (with_reducible repeat (first | apply Kd.R_alloc | apply Kd.R_drewN | apply Kd.R_drew)); exact Kd.R_mono (Kd.R_far (p := ⟨gb216, 1, none⟩) (Kd.R_far (p := ⟨gb216, 0, none⟩) (Kd.R_types HO_227001.out BK216.out (by decide)) (fun _ hk => hk.2) (.int .i64 t221)) (fun _ hk => hk.2) (.slice Ao50 x227001_4.length co50)) (fun _ hk => trivial), zB⟩
         · rw [if_neg c47] at H
           have c47b0 : (t239.toList == a0.toList) = false := beq_eq_false_iff_ne.mpr c47
           have c47b1 : (t239.toList != a0.toList) = true := bne_iff_ne.mpr c47
           simp only [Option.some.injEq, Prod.mk.injEq] at H
           obtain ⟨rfl, rfl, rfl⟩ := H
           have hnb56 := NB226_216.out
           have hnc56 := NB216_226.out
           have hcz57_0 := zy BK226 0
           have hcz57_1 := zy BK226 1
           have hfz57_0 := blk_frozen BK226.out 0
           have hfz57_1 := blk_frozen BK226.out 1
           obtain ⟨Ao58, co58, eo58⟩ := Kd.R_slice HO_227001.out
           subst eo58
           go_wp2_with (first | (go_at_call 15; (with_reducible refine (spec_l2Good.calls kj4 t221 _ _ x227001_4 true _ ?side1 ?side2 A44.out).mono ?_); (case side1 => exact zC (Kd.R_reads' HO_227001.out).2.2); (case side2 => exact (Kd.R_reads' HO_227001.out).2.1); rintro e w59 ⟨rfl, hb⟩; replace HO_227001 := zM (Kd.R_below (zR HO_227001.out) hb); replace BK216 := zM (blk_below (g := gb216) (o := .cells #[.int .i64 0, .slice none 0 0] 28 (0, 0)) (zK BK216.out) hb); replace BK226 := zM (blk_below (g := gb226) (o := .cells #[.int .i64 t221, .slice Ao58 x227001_4.length co58] 28 (0, 0)) (zK BK226.out) hb); replace HB := zM (below_step zB hb); (try clear hb); (try clear hb2); (try clear hk); (try clear hi); have hcz60_0 := zy BK226 0; have hcz60_1 := zy BK226 1; have hfz60_0 := blk_frozen BK226.out 0; have hfz60_1 := blk_frozen BK226.out 1) | (go_at_call 16; (with_reducible refine (spec_l2Text.calls kj4 t221 _ _ x227001_4 t239 _ ?side1 ?side2 A46.out).mono ?_); (case side1 => exact zC (Kd.R_reads' HO_227001.out).2.2); (case side2 => exact (Kd.R_reads' HO_227001.out).2.1); rintro e w61 ⟨rfl, hb⟩; replace HO_227001 := zM (Kd.R_below (zR HO_227001.out) hb); replace BK216 := zM (blk_below (g := gb216) (o := .cells #[.int .i64 0, .slice none 0 0] 28 (0, 0)) (zK BK216.out) hb); replace BK226 := zM (blk_below (g := gb226) (o := .cells #[.int .i64 t221, .slice Ao58 x227001_4.length co58] 28 (0, 0)) (zK BK226.out) hb); replace HB := zM (below_step zB hb); (try clear hb); (try clear hb2); (try clear hk); (try clear hi); have hcz62_0 := zy BK216 0; have hcz62_1 := zy BK216 1; have hfz62_0 := blk_frozen BK216.out 0; have hfz62_1 := blk_frozen BK216.out 1))
           refine bodyPost_ret (results_ct rfl _ _ gb216 28 #[.int .i64 0, .slice none 0 0] (0, 0) _ rfl (by (with_reducible repeat (first | refine blk_drewN ?_ _ | refine blk_drew ?_ | refine blk_alloc ?_ _)); refine blk_put (cs := #[.int .i64 0, .slice none 0 0]) ?_ 1 _ rfl; (with_reducible repeat (first | refine blk_drewN ?_ _ | refine blk_drew ?_ | refine blk_alloc ?_ _)); refine blk_put (cs := #[.int .i64 0, .slice none 0 0]) ?_ 0 _ rfl; (with_reducible repeat (first | refine blk_drewN ?_ _ | refine blk_drew ?_ | refine blk_alloc ?_ _)); exact BK216.out) Tryd.underlying28 rfl (by kernel_rfl)) rfl ?_
           exact ⟨_, by first | rfl | (simp [errW_none, errW_some] <;> rfl) | (simp [*, errW_none, errW_some] <;> rfl), by first | exact Kd.R_nil _ _ _ _ _ | exact Kd.N_nil _ _ _ _ _ | exact Kd.V_nil _ _ _ _ _ | exact Kd.Q_nil _ _ _ _ _ | exact Kd.S_nil _ _ _ _ _, zB⟩
       · replace c45 := Bool.eq_false_iff.mpr c45
         subst c45
         have H1 : (some (0, ([] : List (S41)), false)) = some (r1, r2, r3) := by rw [if_neg (show ¬ (false = true) by decide)] at H; exact H
         clear H
         have H := H1
         clear H1
         simp only [Option.some.injEq, Prod.mk.injEq] at H
         obtain ⟨rfl, rfl, rfl⟩ := H
         have hnb63 := NB226_216.out
         have hnc63 := NB216_226.out
         have hcz64_0 := zy BK226 0
         have hcz64_1 := zy BK226 1
         have hfz64_0 := blk_frozen BK226.out 0
         have hfz64_1 := blk_frozen BK226.out 1
         obtain ⟨Ao65, co65, eo65⟩ := Kd.R_slice HO_227001.out
         subst eo65
         go_wp2_with (first | (go_at_call 15; (with_reducible refine (spec_l2Good.calls kj4 t221 _ _ x227001_4 false _ ?side1 ?side2 A44.out).mono ?_); (case side1 => exact zC (Kd.R_reads' HO_227001.out).2.2); (case side2 => exact (Kd.R_reads' HO_227001.out).2.1); rintro e w66 ⟨rfl, hb⟩; replace HO_227001 := zM (Kd.R_below (zR HO_227001.out) hb); replace BK216 := zM (blk_below (g := gb216) (o := .cells #[.int .i64 0, .slice none 0 0] 28 (0, 0)) (zK BK216.out) hb); replace BK226 := zM (blk_below (g := gb226) (o := .cells #[.int .i64 t221, .slice Ao65 x227001_4.length co65] 28 (0, 0)) (zK BK226.out) hb); replace HB := zM (below_step zB hb); (try clear hb); (try clear hb2); (try clear hk); (try clear hi); have hcz67_0 := zy BK216 0; have hcz67_1 := zy BK216 1; have hfz67_0 := blk_frozen BK216.out 0; have hfz67_1 := blk_frozen BK216.out 1))
         refine bodyPost_ret (results_ct rfl _ _ gb216 28 #[.int .i64 0, .slice none 0 0] (0, 0) _ rfl (by (with_reducible repeat (first | refine blk_drewN ?_ _ | refine blk_drew ?_ | refine blk_alloc ?_ _)); refine blk_put (cs := #[.int .i64 0, .slice none 0 0]) ?_ 1 _ rfl; (with_reducible repeat (first | refine blk_drewN ?_ _ | refine blk_drew ?_ | refine blk_alloc ?_ _)); refine blk_put (cs := #[.int .i64 0, .slice none 0 0]) ?_ 0 _ rfl; (with_reducible repeat (first | refine blk_drewN ?_ _ | refine blk_drew ?_ | refine blk_alloc ?_ _)); exact BK216.out) Tryd.underlying28 rfl (by kernel_rfl)) rfl ?_
         exact ⟨_, by first | rfl | (simp [errW_none, errW_some] <;> rfl) | (simp [*, errW_none, errW_some] <;> rfl), by first | exact Kd.R_nil _ _ _ _ _ | exact Kd.N_nil _ _ _ _ _ | exact Kd.V_nil _ _ _ _ _ | exact Kd.Q_nil _ _ _ _ _ | exact Kd.S_nil _ _ _ _ _, zB⟩
     · replace c43 := Bool.eq_false_iff.mpr c43
       subst c43
       have H1 : (some (0, ([] : List (S41)), false)) = some (r1, r2, r3) := by rw [if_neg (show ¬ (false = true) by decide)] at H; exact H
       clear H
       have H := H1
       clear H1
       simp only [Option.some.injEq, Prod.mk.injEq] at H
       obtain ⟨rfl, rfl, rfl⟩ := H
       have hnb68 := NB216_226.out
       have hnc68 := NB226_216.out
       have hcz69_0 := zy BK216 0
       have hcz69_1 := zy BK216 1
       have hfz69_0 := blk_frozen BK216.out 0
       have hfz69_1 := blk_frozen BK216.out 1
       go_wp2
       refine bodyPost_ret (results_ct rfl _ _ gb216 28 #[.int .i64 0, .slice none 0 0] (0, 0) _ rfl (by (with_reducible repeat (first | refine blk_drewN ?_ _ | refine blk_drew ?_ | refine blk_alloc ?_ _)); refine blk_put (cs := #[.int .i64 0, .slice none 0 0]) ?_ 1 _ rfl; (with_reducible repeat (first | refine blk_drewN ?_ _ | refine blk_drew ?_ | refine blk_alloc ?_ _)); refine blk_put (cs := #[.int .i64 0, .slice none 0 0]) ?_ 0 _ rfl; (with_reducible repeat (first | refine blk_drewN ?_ _ | refine blk_drew ?_ | refine blk_alloc ?_ _)); exact BK216.out) Tryd.underlying28 rfl (by kernel_rfl)) rfl ?_
       exact ⟨_, by first | rfl | (simp [errW_none, errW_some] <;> rfl) | (simp [*, errW_none, errW_some] <;> rfl), by first | exact Kd.R_nil _ _ _ _ _ | exact Kd.N_nil _ _ _ _ _ | exact Kd.V_nil _ _ _ _ _ | exact Kd.Q_nil _ _ _ _ _ | exact Kd.S_nil _ _ _ _ _, zB⟩
 · rw [if_neg c3] at H
   exact absurd H (by simp)

end Go.Proofs.YtfkcddambaadjaaDoor.P
namespace Go.Proofs.YtfkcddambaadjaaDoor.P
open Go.RowKit Go.Proofs.YtfkcddambaadjaaDoorW.PrintWords Go.Proofs.YtfkcddambaadjaaDoorW.PrintLast Go.Proofs.YtfkcddambaadjaaDoorW.PrintMore
set_option linter.unusedVariables false
set_option linter.unusedSimpArgs false
def IsT (s : ByteArray) (a : Int) (l : List S41) : Prop := okG a l = true ∧ s = textB a l
def AnyT (s : ByteArray) : Prop := ∃ a l, IsT s a l
theorem spl_lens (c : UInt8) (l : List UInt8) : (spl c l).length ≤ l.length + 1 ∧ ∀ x ∈ spl c l, x.length ≤ l.length := by
  induction l with
  | nil => simp [spl]
  | cons b l ih =>
    rw [spl]
    by_cases h : b = c
    · rw [if_pos h]
      refine ⟨by rw [List.length_cons, List.length_cons]; omega, fun x hx => ?_⟩
      rcases List.mem_cons.1 hx with rfl | hx
      · exact Nat.zero_le _
      · have := ih.2 x hx
        rw [List.length_cons]; omega
    · rw [if_neg h]
      cases hz : spl c l with
      | nil => exact absurd hz (spl_ne _ _)
      | cons x xs =>
        rw [hz] at ih
        simp only [pre, List.length_cons] at ih ⊢
        refine ⟨by omega, fun y hy => ?_⟩
        rcases List.mem_cons.1 hy with rfl | hy
        · have := ih.2 x (List.mem_cons_self ..)
          rw [List.length_append, List.length_singleton]; omega
        · have := ih.2 y (List.mem_cons_of_mem _ hy)
          omega
theorem rdB_at (l : List ByteArray) (m : Nat) (h : m < l.length) : rdOf ByteArray.empty l (m : Int) = l[m] := by simp [rdOf, List.getD_eq_getElem?_getD, List.getElem?_eq_getElem h]
theorem goodE_num (e : S41) (h : goodE e) : (-999999 ≤ e.f0 ∧ e.f0 ≤ 999999) ∧ (-999999 ≤ e.f1 ∧ e.f1 ≤ 999999) := by
  unfold goodE at h
  omega
theorem readEdge_ev (w : ByteArray) (hw : w.size ≤ 1048576) : ∃ r : Int × Int × Bool, Ev (fun k => spec_l2ReadEdge.f k w) r ∧ ∀ e, goodE e → w = str (wordL e) → r = (e.f0, e.f1, true) := by
  have hs := split_ev w 45 hw
  by_cases h2 : (spl 45 w.data.toList).length = 2
  · have hlen : ((spl 45 w.data.toList).map str).length = 2 := by rw [List.length_map]; exact h2
    obtain ⟨r1, a1, _, a3⟩ := spec_l1Read_ev (rdOf ByteArray.empty ((spl 45 w.data.toList).map str) 0)
    obtain ⟨r2, b1, _, b3⟩ := spec_l1Read_ev (rdOf ByteArray.empty ((spl 45 w.data.toList).map str) 1)
    refine ⟨if r1.2 = true then (r1.1, r2.1, r2.2) else (r1.1, r2.1, false), ?_, fun e he hwe => ?_⟩
    · unfold spec_l2ReadEdge.f
      refine Ev.bind hs ?_
      refine Ev.pos (by omega) ?_
      refine Ev.pos (by omega) ?_
      refine Ev.bind a1 ?_
      refine Ev.pos (by omega) ?_
      refine Ev.bind b1 ?_
      rcases r1 with ⟨x1, ok1⟩
      cases ok1 with
      | true => exact Ev.pos rfl (Ev.now _)
      | false => exact Ev.neg (show ¬ (false = true) by decide) (Ev.now _)
    · have hf : ¬ (45 : UInt8) ∈ Lib.itoa e.f0 := by rw [itoa_nat _ he.1.1]; exact dig_free _ 45 (.inl (by decide))
      have hg : ¬ (45 : UInt8) ∈ Lib.itoa e.f1 := by rw [itoa_nat _ he.2.1]; exact dig_free _ 45 (.inl (by decide))
      have hn := goodE_num e he
      have e1 : spl 45 w.data.toList = [Lib.itoa e.f0, Lib.itoa e.f1] := by rw [hwe, str_list, wordL, spl_at 45 _ _ hf, spl_free 45 _ hg]
      rw [a3 e.f0 hn.1 (by rw [e1]; rfl), b3 e.f1 hn.2 (by rw [e1]; rfl)]
      rfl
  · refine ⟨(0, 0, false), ?_, fun e he hwe => ?_⟩
    · unfold spec_l2ReadEdge.f
      refine Ev.bind hs ?_
      exact Ev.neg (by rw [List.length_map]; omega) (Ev.now _)
    · have hf : ¬ (45 : UInt8) ∈ Lib.itoa e.f0 := by rw [itoa_nat _ he.1.1]; exact dig_free _ 45 (.inl (by decide))
      have hg : ¬ (45 : UInt8) ∈ Lib.itoa e.f1 := by rw [itoa_nat _ he.2.1]; exact dig_free _ 45 (.inl (by decide))
      refine absurd ?_ h2
      rw [hwe, str_list, wordL, spl_at 45 _ _ hf, spl_free 45 _ hg]
      rfl
theorem parse_end (s : ByteArray) (ok : Bool) (n : Int) (es : List S41) (he : es.length ≤ 1048576) : ∃ r : Int × List S41 × Bool, Ev (fun k => spec_ParseGraph.j1 k s ok n es) r ∧ (¬ AnyT s → r = (0, [], false)) ∧ (ok = true → IsT s n es → r = (n, es, true)) := by
  cases ok with
  | false =>
    refine ⟨(0, [], false), Ev.step (fun k => by rw [spec_ParseGraph.j1]) (Ev.neg (by decide) (Ev.now _)), fun _ => rfl, fun h => by cases h⟩
  | true =>
    cases hg : okG n es with
    | false =>
      refine ⟨(0, [], false), Ev.step (fun k => by rw [spec_ParseGraph.j1]) (Ev.pos rfl ?_), fun _ => rfl, fun _ h => by rw [h.1] at hg; cases hg⟩
      refine Ev.bind (l2Good_ev n es he) ?_
      rw [hg]
      exact Ev.neg (by decide) (Ev.now _)
    | true =>
      have hf := okG_fit n es hg
      by_cases hs : textB n es = s
      · refine ⟨(n, es, true), Ev.step (fun k => by rw [spec_ParseGraph.j1]) (Ev.pos rfl ?_), fun h => absurd ⟨n, es, hg, hs.symm⟩ h, fun _ _ => rfl⟩
        refine Ev.bind (l2Good_ev n es he) ?_
        rw [hg]
        refine Ev.pos rfl ?_
        refine Ev.bind (l2Text_ev n es he hf.1 hf.2) ?_
        exact Ev.pos ((str_eq_iff _ _).2 hs) (Ev.now _)
      · refine ⟨(0, [], false), Ev.step (fun k => by rw [spec_ParseGraph.j1]) (Ev.pos rfl ?_), fun _ => rfl, fun _ h => absurd h.2.symm hs⟩
        refine Ev.bind (l2Good_ev n es he) ?_
        rw [hg]
        refine Ev.pos rfl ?_
        refine Ev.bind (l2Text_ev n es he hf.1 hf.2) ?_
        exact Ev.neg (fun h => hs ((str_eq_iff _ _).1 h)) (Ev.now _)
theorem parse_loop (s : ByteArray) (W : List ByteArray) (hW : ∀ w ∈ W, w.size ≤ 1048576) (hl : W.length ≤ 1048577) (n : Int) (d : Nat) : ∀ (m : Nat) (ok : Bool) (es : List S41), W.length - m = d → m ≤ W.length → es.length + 1 = m → m ≤ 30 →
    ∃ r : Int × List S41 × Bool, Ev (fun k => spec_ParseGraph.l0 k s W ok (m : Int) n es) r ∧ (¬ AnyT s → r = (0, [], false)) ∧
      (∀ l' : List S41, (∀ e ∈ l', goodE e) → W.drop m = l'.map (fun e => str (wordL e)) → ok = true → m + l'.length ≤ 30 → IsT s n (es ++ l') → r = (n, es ++ l', true)) := by
  induction d with
  | zero =>
    intro m ok es h1 h2 h3 h4
    obtain ⟨r, r1, r2, r3⟩ := parse_end s ok n es (by omega)
    refine ⟨r, Ev.step (fun k => by rw [spec_ParseGraph.l0]) (Ev.neg (by omega) r1), r2, fun l' _ hd ho _ ht => ?_⟩
    rw [List.drop_eq_nil_of_le (by omega)] at hd
    have hl' : l' = [] := List.map_eq_nil_iff.1 hd.symm
    subst hl'
    rw [List.append_nil] at ht ⊢
    exact r3 ho ht
  | succ d ih =>
    intro m ok es h1 h2 h3 h4
    have hm : m < W.length := by omega
    by_cases hc : m ≤ 29
    · obtain ⟨q, q1, q2⟩ := readEdge_ev W[m] (hW _ (List.getElem_mem hm))
      have hwr := wrap_up (m := m) (n := W.length) (by omega) (by omega)
      cases ok with
      | true =>
        obtain ⟨r, r1, r2, r3⟩ := ih (m + 1) q.2.2 (es ++ [⟨q.1, q.2.1⟩]) (by omega) (by omega) (by rw [List.length_append, List.length_singleton]; omega) (by omega)
        refine ⟨r, Ev.step (fun k => by rw [spec_ParseGraph.l0]) (Ev.pos (by omega) (Ev.pos (by omega) (Ev.pos (by omega) ?_))), r2, fun l' hg hd ho hle ht => ?_⟩
        · rw [rdB_at W m hm, hwr]
          refine Ev.bind q1 ?_
          exact Ev.pos rfl (Ev.pos (by omega) r1)
        · rw [List.drop_eq_getElem_cons hm] at hd
          cases l' with
          | nil => cases hd
          | cons e l' =>
            rw [List.map_cons] at hd
            injection hd with hd1 hd2
            have hq := q2 e (hg e (List.mem_cons_self ..)) hd1
            rw [hq] at r3
            have he : es ++ e :: l' = (es ++ [⟨e.f0, e.f1⟩]) ++ l' := by rw [List.append_assoc]; rfl
            rw [he] at ht ⊢
            exact r3 l' (fun x hx => hg x (List.mem_cons_of_mem _ hx)) hd2 rfl (by rw [List.length_cons] at hle; omega) ht
      | false =>
        obtain ⟨r, r1, r2, r3⟩ := ih (m + 1) false (es ++ [⟨q.1, q.2.1⟩]) (by omega) (by omega) (by rw [List.length_append, List.length_singleton]; omega) (by omega)
        refine ⟨r, Ev.step (fun k => by rw [spec_ParseGraph.l0]) (Ev.pos (by omega) (Ev.pos (by omega) (Ev.pos (by omega) ?_))), r2, fun l' hg hd ho hle ht => by cases ho⟩
        rw [rdB_at W m hm, hwr]
        refine Ev.bind q1 ?_
        exact Ev.neg (by decide) (Ev.pos (by omega) r1)
    · obtain ⟨r, r1, r2, r3⟩ := parse_end s ok n es (by omega)
      refine ⟨r, Ev.step (fun k => by rw [spec_ParseGraph.l0]) (Ev.pos (by omega) (Ev.neg (by omega) r1)), r2, fun l' hg hd ho hle ht => ?_⟩
      rw [List.drop_eq_getElem_cons hm] at hd
      cases l' with
      | nil => cases hd
      | cons e l' => rw [List.length_cons] at hle; omega
theorem spec_ParseGraph_ev (s : ByteArray) (hs : s.size ≤ 1048576) : ∃ r : Int × List S41 × Bool, Ev (fun k => spec_ParseGraph.f k s) r ∧ (¬ AnyT s → r = (0, [], false)) ∧ ∀ a l, IsT s a l → r = (a, l, true) := by
  have hz := spl_lens 32 s.data.toList
  have hsl := size_len s
  have hne := spl_ne 32 s.data.toList
  obtain ⟨W, hW⟩ : ∃ W, W = (spl 32 s.data.toList).map str := ⟨_, rfl⟩
  have hWl : W.length = (spl 32 s.data.toList).length := by rw [hW, List.length_map]
  have hpos : 0 < W.length := by rw [hWl]; exact List.length_pos_iff.2 hne
  have hWs : ∀ w ∈ W, w.size ≤ 1048576 := fun w hw => by
    rw [hW] at hw
    obtain ⟨x, hx, rfl⟩ := List.mem_map.1 hw
    rw [str_size]
    have := hz.2 x hx
    omega
  obtain ⟨q, q1, _, q3⟩ := spec_l1Read_ev (rdOf ByteArray.empty W 0)
  obtain ⟨r, r1, r2, r3⟩ := parse_loop s W hWs (by omega) q.1 _ 1 q.2 [] rfl (by omega) rfl (by decide)
  refine ⟨r, ?_, r2, fun a l ht => ?_⟩
  · unfold spec_ParseGraph.f
    refine Ev.bind (split_ev s 32 hs) ?_
    rw [← hW]
    refine Ev.pos (by omega) ?_
    refine Ev.bind q1 ?_
    exact r1
  · have hw := words_text a l ht.1
    rw [← ht.2] at hw
    have hsm := okG_small a l ht.1
    have hq := q3 a (by omega) (by rw [hW, hw]; rfl)
    rw [hq] at r3
    have h28 := okG_len a l ht.1
    have := r3 l (fun e he => by have := hsm.2 e he; unfold goodE; omega) (by rw [hW, hw]; simp) rfl (by omega) (by rw [List.nil_append]; exact ht)
    rw [List.nil_append] at this
    exact this
end Go.Proofs.YtfkcddambaadjaaDoor.P
namespace Go.Proofs.YtfkcddambaadjaaDoor.P
open Go.RowKit Go.Proofs.YtfkcddambaadjaaDoorW.PrintWords Go.Proofs.YtfkcddambaadjaaDoorW.PrintLast Go.Proofs.YtfkcddambaadjaaDoorW.PrintMore
/-! The split. -/
theorem spl_len (c : UInt8) (l : List UInt8) : (spl c l).length = Lib.count l [c] + 1 := by
  induction l with
  | nil => simp [spl, Lib.count_one]
  | cons b l ih =>
    rw [spl]
    by_cases h : b = c
    · subst h
      rw [if_pos rfl, List.length_cons, ih, Lib.count_cons_eq]; omega
    · rw [if_neg h, Lib.count_cons_ne b c l h, ← ih]
      cases hz : spl c l with
      | nil => exact absurd hz (spl_ne _ _)
      | cons x xs => simp [pre]
theorem splitK_spl (c : UInt8) (l : List UInt8) : Lib.splitK [c] 0 (Lib.count l [c]) l = spl c l := by
  induction l with
  | nil => simp [spl, Lib.count_one, Lib.splitK]
  | cons b l ih =>
    have hg := Lib.indexByte_ge l c
    have hx : Lib.index (b :: l) [c] = if b = c then 0 else if Lib.indexByte l c = -1 then -1 else Lib.indexByte l c + 1 := by
      rw [Lib.index_one, Lib.indexByte]
      simp only [beq_iff_eq]
    rw [spl]
    by_cases h : b = c
    · subst h
      rw [if_pos rfl] at hx
      rw [if_pos rfl, Lib.count_cons_eq, Nat.add_comm, Lib.splitK, hx, if_neg (by decide)]
      simp [ih]
    · rw [if_neg h] at hx
      rw [if_neg h, Lib.count_cons_ne b c l h]
      by_cases hm : Lib.indexByte l c = -1
      · have hc : Lib.count l [c] = 0 := Lib.count_miss (by rw [Lib.index_one]; exact hm)
        rw [hc] at ih ⊢
        rw [← ih]
        simp [Lib.splitK, pre]
      · rw [if_neg hm] at hx
        obtain ⟨j, hj⟩ : ∃ j : Nat, Lib.indexByte l c = j := ⟨(Lib.indexByte l c).toNat, by omega⟩
        have hc := Lib.count_hit (s := l) (sub := [c]) (i := j) (by simp) (by rw [Lib.index_one]; exact hj)
        rw [hc, Nat.add_comm, Lib.splitK] at ih ⊢
        rw [hx, hj, if_neg (show ¬ ((j : Int) + 1 == -1) = true from fun e => by have := beq_iff_eq.1 e; omega)]
        rw [Lib.index_one, hj, if_neg (show ¬ ((j : Int) == -1) = true from fun e => by have := beq_iff_eq.1 e; omega)] at ih
        rw [← ih, show ((j : Int) + 1).toNat = j + 1 by omega, Int.toNat_natCast, pre]
        simp
theorem spl_le (c : UInt8) (l : List UInt8) : (spl c l).length ≤ l.length + 1 := by
  induction l with
  | nil => simp [spl]
  | cons b l ih =>
    rw [spl]
    by_cases h : b = c
    · rw [if_pos h, List.length_cons, List.length_cons]; omega
    · rw [if_neg h]
      cases hz : spl c l with
      | nil => exact absurd hz (spl_ne _ _)
      | cons x xs => rw [hz] at ih; simp only [pre, List.length_cons] at ih ⊢; omega
end Go.Proofs.YtfkcddambaadjaaDoor.P
namespace Go.Proofs.YtfkcddambaadjaaDoor.P
open Go.RowKit Go.Proofs.YtfkcddambaadjaaDoorW.PrintWords Go.Proofs.YtfkcddambaadjaaDoorW.PrintLast Go.Proofs.YtfkcddambaadjaaDoorW.PrintMore
theorem splitB_spl (c : UInt8) (s : ByteArray) : Lib.splitB ⟨#[c]⟩ 0 (Lib.countB s ⟨#[c]⟩) s = (spl c s.data.toList).map str := by
  have h := Lib.splitB_data ⟨#[c]⟩ 0 (Lib.countB s ⟨#[c]⟩) s
  have h2 : Lib.splitK [c] 0 (Lib.countB s ⟨#[c]⟩) s.data.toList = spl c s.data.toList := splitK_spl c s.data.toList
  rw [← h2, ← h, List.map_map]
  have e : (str ∘ fun x : ByteArray => x.data.toList) = id := by
    funext x
    exact str_data x
  rw [e, List.map_id]
theorem split_calls (s : ByteArray) (c : UInt8) (hs : s.size ≤ 1048576) (m : Int) (w : World) (hm : w.cell? ⟨2, 0, none⟩ = some (.int .i64 m)) :
    Calls Tryd.prog 24 #[.string s, .string ⟨#[c]⟩] w fun e w' => ∃ v0 : Value, e = .returned v0 ∧ Kd.R Kd.string 9 w' w.heap.size (fun _ => True) v0 ((spl c s.data.toList).map str) ∧ Below w.heap.size w w' := by
  refine (Tryd.strings_Split s ⟨#[c]⟩ m w (by omega) hm (Nat.le_refl 1)).mono fun e w' h => ?_
  obtain ⟨rfl, rfl⟩ := h
  have hl : (spl c s.data.toList).length = Lib.countB s ⟨#[c]⟩ + 1 := spl_len c s.data.toList
  have hle := spl_le c s.data.toList
  have hsz := size_len s
  refine ⟨_, rfl, ?_, below_alloc (Below.refl _ _) _⟩
  rw [splitB_spl]
  refine Kd.R_of_own (enc := Value.string) ?_ (fun _ _ => trivial)
  refine ⟨by rw [encs_length, List.length_map, Nat.mul_one], .inr ⟨w.heap.size, Lib.countB s ⟨#[c]⟩ + 1, (((spl c s.data.toList).map str).map Value.string).toArray, by rw [List.length_map, hl], Nat.le_refl _, ?_, by rw [List.length_map, hl]; exact Nat.le_refl _, ?_, ?_, ?_⟩⟩
  · exact blk_new w _
  · rw [← hl]
    have : maxLen = 9223372036854775807 := by decide
    omega
  · simp [hl]
  · rw [Nat.mul_one, List.take_of_length_le (by simp)]
    rfl
end Go.Proofs.YtfkcddambaadjaaDoor.P
namespace Go.Proofs.YtfkcddambaadjaaDoor.P
open Go.RowKit Go.Proofs.YtfkcddambaadjaaDoorW.PrintWords Go.Proofs.YtfkcddambaadjaaDoorW.PrintLast Go.Proofs.YtfkcddambaadjaaDoorW.PrintMore
set_option linter.unusedVariables false
set_option linter.unusedSimpArgs false
/-- What the library's variables hold. -/
structure Env (w : World) : Prop where mk ::
  pow : Pow w
  most : ∃ m, w.cell? ⟨2, 0, none⟩ = some (.int .i64 m)
  err1 : ErrAt 0 w
  err2 : ErrAt 1 w
theorem env_below {w w' : World} (h : Env w) (hb : Below w.heap.size w w') : Env w' :=
  ⟨pow_below h.pow hb, h.most.elim fun m hm => ⟨m, pw_cell_below hb hm⟩, errAt_below h.err1 hb, errAt_below h.err2 hb⟩
theorem atoiV_calls (s : ByteArray) (hs : s.size ≤ 1048576) (w : World) (h : Env w) :
    Calls Tryd.prog 25 #[.string s] w fun e w' => ∃ (v : Int) (ev : Value), e = .returned (.tuple #[.int .i64 v, ev]) ∧ (∀ u, Lib.atoiAll s.data.toList = .ok u → v = u) ∧ Below w.heap.size w w' :=
  (atoi_calls s hs w h.err1 h.err2).mono fun e w' hh => by
    obtain ⟨hb, ⟨v, h1, h2⟩ | ⟨h1, v, N, h2⟩⟩ := hh
    · exact ⟨v, _, h2, fun u hu => by rw [h1] at hu; injection hu, hb⟩
    · exact ⟨v, _, h2, fun u hu => absurd hu (h1 u), hb⟩
theorem cutG_calls (s : ByteArray) (hs : s.size ≤ 1048576) (w : World) (h : Env w) :
    Calls Tryd.prog 26 #[.string s, .string ⟨#[45]⟩] w fun e w' => ∃ (f : Bool), e = .returned (.tuple #[.string (str (Lib.cut s.data.toList [45]).1), .string (str (Lib.cut s.data.toList [45]).2.1), .bool f]) ∧ Below w.heap.size w w' := by
  obtain ⟨m, hm⟩ := h.most
  exact (Tryd.strings_Cut s ⟨#[45]⟩ m w (by omega) hm).mono fun e w' h => ⟨_, h.1, by obtain ⟨_, n, rfl⟩ := h; exact pw_below_drewN (Below.refl _ _) n⟩
theorem splitG_calls (s : ByteArray) (hs : s.size ≤ 1048576) (w : World) (h : Env w) :
    Calls Tryd.prog 24 #[.string s, .string ⟨#[32]⟩] w fun e w' => ∃ v0 : Value, e = .returned v0 ∧ Kd.R Kd.string 9 w' w.heap.size (fun _ => True) v0 ((spl 32 s.data.toList).map str) ∧ Below w.heap.size w w' := by
  obtain ⟨m, hm⟩ := h.most
  exact split_calls s 32 hs m w hm
theorem cut_len (l : List UInt8) : (Lib.cut l [45]).1.length ≤ l.length ∧ (Lib.cut l [45]).2.1.length ≤ l.length := by
  rw [Lib.cut]
  split
  · exact ⟨List.length_take_le' _ _, by rw [List.length_drop]; omega⟩
  · exact ⟨Nat.le_refl _, Nat.zero_le _⟩
/-- What a word tells of an edge. -/
def PE (w : ByteArray) (e : S41) : Prop := (∀ u, Lib.atoiAll (Lib.cut w.data.toList [45]).1 = .ok u → e.f0 = u) ∧ (∀ u, Lib.atoiAll (Lib.cut w.data.toList [45]).2.1 = .ok u → e.f1 = u)
def PEs (W : List ByteArray) (es : List S41) : Prop := ∀ (j : Nat) (w : ByteArray) (e : S41), W[j + 1]? = some w → es[j]? = some e → PE w e
theorem parsed_eq (s : ByteArray) (W : List ByteArray) (hW : W = (spl 32 s.data.toList).map str) (n : Int) (es : List S41) (hn : ∀ w, W[0]? = some w → ∀ u, Lib.atoiAll w.data.toList = .ok u → n = u) (hes : PEs W es) (hl : es.length + 1 = W.length) (a : Int) (l : List S41) (ht : IsT s a l) : n = a ∧ es = l := by
  have hw := words_text a l ht.1
  rw [← ht.2] at hw
  have hsm := okG_small a l ht.1
  rw [hw] at hW
  refine ⟨hn (str (Lib.itoa a)) (by rw [hW]; rfl) a (by rw [str_list]; exact atoi_itoa a (by omega)), ?_⟩
  have hlen : es.length = l.length := by
    have := congrArg List.length hW
    simp at this
    omega
  apply List.ext_getElem hlen
  intro j h1 h2
  have hge : goodE l[j] := by
    have := hsm.2 l[j] (List.getElem_mem h2)
    unfold goodE
    omega
  have hnum := goodE_num l[j] hge
  have hwj : W[j + 1]? = some (str (wordL l[j])) := by
    rw [hW]
    simp [h2]
  have hp := hes j _ es[j] hwj (List.getElem?_eq_getElem h1)
  unfold PE at hp
  rw [str_list, cut_word _ hge] at hp
  have e0 := hp.1 l[j].f0 (atoi_itoa _ hnum.1)
  have e1 := hp.2 l[j].f1 (atoi_itoa _ hnum.2)
  cases hx : es[j]
  cases hy : l[j]
  rw [hx, hy] at e0 e1
  simp only at e0 e1
  rw [e0, e1]
theorem isT_uniq (s : ByteArray) (a a' : Int) (l l' : List S41) (h : IsT s a l) (h' : IsT s a' l') : a = a' ∧ l = l' := by
  have hw := words_text a l h.1
  rw [← h.2] at hw
  have hsm := okG_small a l h.1
  refine parsed_eq s ((spl 32 s.data.toList).map str) rfl a l ?_ ?_ ?_ a' l' h'
  · intro w hw0 u hu
    rw [hw] at hw0
    simp at hw0
    rw [← hw0, str_list, atoi_itoa a (by omega)] at hu
    injection hu
  · intro j w e hj he
    rw [hw] at hj
    simp [he] at hj
    have hge : goodE e := by
      have := hsm.2 e (List.mem_of_getElem? he)
      unfold goodE
      omega
    have hnum := goodE_num e hge
    unfold PE
    rw [← hj, str_list, cut_word _ hge]
    exact ⟨fun u hu => by rw [atoi_itoa _ hnum.1] at hu; injection hu, fun u hu => by rw [atoi_itoa _ hnum.2] at hu; injection hu⟩
  · rw [hw]; simp
noncomputable section
open Classical in
/-- The graph of a text, or none. -/
def parG (s : ByteArray) : Int × List S41 × Bool := if h : AnyT s then (h.choose, h.choose_spec.choose, true) else (0, [], false)
theorem parG_yes (s : ByteArray) (a : Int) (l : List S41) (h : IsT s a l) : parG s = (a, l, true) := by
  have h0 : AnyT s := ⟨a, l, h⟩
  unfold parG
  rw [dif_pos h0]
  have h2 := isT_uniq s _ _ _ _ h0.choose_spec.choose_spec h
  exact Prod.ext h2.1 (Prod.ext h2.2 rfl)
theorem parG_no (s : ByteArray) (h : ¬ AnyT s) : parG s = (0, [], false) := dif_neg h
def impl_ParseGraph.f (a0 : ByteArray) : Option (Int × List S41 × Bool) := if a0.size ≤ 1048576 then some (parG a0) else none
end
end Go.Proofs.YtfkcddambaadjaaDoor.P
