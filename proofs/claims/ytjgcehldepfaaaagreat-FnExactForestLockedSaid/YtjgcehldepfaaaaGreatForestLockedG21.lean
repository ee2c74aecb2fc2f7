-- Written by a program of this session (the kit's print, turned: wip/print/patch.py) out of the translation. Not trusted: Lean checks it.
import Derived.Test.YtjgcehldepfaaaaGreatForestLockedG5
import Derived.Test.YtjgcehldepfaaaaGreatForestLockedG14
import Derived.Test.YtjgcehldepfaaaaGreatForestLockedG15
import Derived.Test.YtjgcehldepfaaaaGreatForestLockedG20
import Derived.Test.YtjgcehldepfaaaaGreatForestLockedG12
import Derived.Test.YtjgcehldepfaaaaGreatForestLockedG18
import Derived.Test.YtjgcehldepfaaaaGreatForestLockedG19
import Derived.Test.YtjgcehldepfaaaaGreatForestLockedG17
namespace Go.Proofs.YtjgcehldepfaaaaGreat.P
open Go.RowKit YtjgcehldepfaaaaGreatW.PrintWords Go.Proofs.YtjgcehldepfaaaaGreatW.PrintLast Go.Proofs.YtjgcehldepfaaaaGreatW.PrintMore
attribute [local go_sem] bk bg bh bc bi bd bj bf   -- for this text's walks alone
set_option linter.unusedVariables false
set_option linter.unusedSimpArgs false

/-! ### impl_ForestLocked: function 9 -/
def fW (k : Nat) (a0_0 : Int) (l0_1 : List (S63)) (l1 : List Int) : Option (List Int × Bool) := (gI k a0_0 l0_1 l1 l1).bind fun t461 => (if t461 = true then ((fa k a0_0 l0_1).bind fun t462 => (if t462 = true then ((ed k a0_0 l0_1 l1).bind fun t463 => (some (t463, true))) else (some (([] : List Int), false)))) else (some (([] : List Int), false)))
set_option maxHeartbeats 8000000 in
set_option maxRecDepth 100000 in
theorem ma (k : Nat) (a0_0 : Int) (A0_1 : Option Addr) (c0_1 : Nat) (l0_1 : List (S63)) (A1 : Option Addr) (c1 : Nat) (l1 : List Int) (r1 : List Int) (r2 : Bool) (w : World) (hr0_1 : Kd.C k63 w A0_1 l0_1.length l0_1) (hc0_1 : l0_1.length ≤ c0_1) (hr1 : Kd.C (Kd.int .i64) w A1 l1.length l1) (hc1 : l1.length ≤ c1) (h : fW k a0_0 l0_1 l1 = some (r1, r2)) :
 Calls Tryz.prog 9 #[.agg #[.int .i64 a0_0, .slice A0_1 l0_1.length c0_1], .slice A1 l1.length c1] w fun e w' => ∃ v0_ : Value, e = .returned (.tuple #[v0_, .bool r2]) ∧ Kd.R (Kd.int .i64) 3 w' w.heap.size (fun _ => True) v0_ r1 ∧ Below w.heap.size w w' := by
 have hu29 := Tryz.underlying29
 have HR0_1 := Aside0.mk hr0_1
 have HC0_1 := Aside0.mk hc0_1
 clear hr0_1 hc0_1
 have HR1 := Aside0.mk hr1
 have HC1 := Aside0.mk hc1
 clear hr1 hc1
 have HB := zM (Below.refl w.heap.size w)
 have H : ((gI k a0_0 l0_1 l1 l1).bind fun t461 => (if t461 = true then ((fa k a0_0 l0_1).bind fun t462 => (if t462 = true then ((ed k a0_0 l0_1 l1).bind fun t463 => (some (t463, true))) else (some (([] : List Int), false)))) else (some (([] : List Int), false)))) = some (r1, r2) := h
 clear h
 replace H := aw H
 obtain ⟨t461, A30, H⟩ := H
 replace H : (if t461 = true then ((fa k a0_0 l0_1).bind fun t462 => (if t462 = true then ((ed k a0_0 l0_1 l1).bind fun t463 => (some (t463, true))) else (some (([] : List Int), false)))) else (some (([] : List Int), false))) = some (r1, r2) := H
 have A3 := Aside0.mk A30
 clear A30
 by_cases c4 : t461 = true
 · subst c4
   have H1 : ((fa k a0_0 l0_1).bind fun t462 => (if t462 = true then ((ed k a0_0 l0_1 l1).bind fun t463 => (some (t463, true))) else (some (([] : List Int), false)))) = some (r1, r2) := by rw [if_pos rfl] at H; exact H
   clear H
   have H := H1
   clear H1
   replace H := aw H
   obtain ⟨t462, A50, H⟩ := H
   replace H : (if t462 = true then ((ed k a0_0 l0_1 l1).bind fun t463 => (some (t463, true))) else (some (([] : List Int), false))) = some (r1, r2) := H
   have A5 := Aside0.mk A50
   clear A50
   by_cases c6 : t462 = true
   · subst c6
     have H1 : ((ed k a0_0 l0_1 l1).bind fun t463 => (some (t463, true))) = some (r1, r2) := by rw [if_pos rfl] at H; exact H
     clear H
     have H := H1
     clear H1
     replace H := aw H
     obtain ⟨t463, A70, H⟩ := H
     replace H : (some (t463, true)) = some (r1, r2) := H
     have A7 := Aside0.mk A70
     clear A70
     simp only [Option.some.injEq, Prod.mk.injEq] at H
     obtain ⟨rfl, rfl⟩ := H
     go_enter Tryz.func9, Tryz.ntmps9
     go_wp2_with (first | ((with_reducible refine ar (N := 2) rfl ?_); refine zb (w := w) 2 #[.int .i64 a0_0, .slice A0_1 l0_1.length c0_1] 29 zB ?_; clear HB; intro gb460 w8 HB BK460 GW460; have GE460 := GW460; have hcz9_0 := zy BK460 0; have hcz9_1 := zy BK460 1; have hfz9_0 := ae BK460.out 0; have hfz9_1 := ae BK460.out 1) | ((with_reducible refine az (f := 22) rfl ?_); refine zc 9 Tryz.func22 #[.agg #[.int .i64 a0_0, .slice A0_1 l0_1.length c0_1], .slice A1 l1.length c1, .slice A1 l1.length c1] ?_; (with_reducible refine (jB k a0_0 _ _ l0_1 _ _ l1 _ _ l1 true _ ?side1 ?side2 ?side3 ?side4 ?side5 ?side6 A3.out).mono ?_); (case side1 => exact zC (Kd.C_below HR0_1.out HB.out)); (case side2 => exact HC0_1.out); (case side3 => exact zC (Kd.C_below HR1.out HB.out)); (case side4 => exact HC1.out); (case side5 => exact zC (Kd.C_below HR1.out HB.out)); (case side6 => exact HC1.out); rintro e w10 ⟨rfl, hb⟩; refine ⟨_, rfl, ?_⟩; replace BK460 := zM (am (g := gb460) (o := .cells #[.int .i64 a0_0, .slice A0_1 l0_1.length c0_1] 29 (0, 0)) (zK BK460.out) hb); replace HB := zM (ag zB hb); (try clear hb); (try clear hb2); (try clear hk); (try clear hi); have hcz11_0 := zy BK460 0; have hcz11_1 := zy BK460 1; have hfz11_0 := ae BK460.out 0; have hfz11_1 := ae BK460.out 1) | (go_at_call 23; (with_reducible refine (l9 k a0_0 _ _ l0_1 true _ ?side1 ?side2 A5.out).mono ?_); (case side1 => exact zC (Kd.C_below HR0_1.out HB.out)); (case side2 => exact HC0_1.out); rintro e w12 ⟨rfl, hb⟩; replace BK460 := zM (am (g := gb460) (o := .cells #[.int .i64 a0_0, .slice A0_1 l0_1.length c0_1] 29 (0, 0)) (zK BK460.out) hb); replace HB := zM (ag zB hb); (try clear hb); (try clear hb2); (try clear hk); (try clear hi); have hcz13_0 := zy BK460 0; have hcz13_1 := zy BK460 1; have hfz13_0 := ae BK460.out 0; have hfz13_1 := ae BK460.out 1) | ((with_reducible refine az (f := 24) rfl ?_); refine zc 18 Tryz.func24 #[.agg #[.int .i64 a0_0, .slice A0_1 l0_1.length c0_1], .slice A1 l1.length c1] ?_; (with_reducible refine (qN k a0_0 _ _ l0_1 _ _ l1 t463 _ ?side1 ?side2 ?side3 ?side4 A7.out).mono ?_); (case side1 => exact zC (Kd.C_below HR0_1.out HB.out)); (case side2 => exact HC0_1.out); (case side3 => exact zC (Kd.C_below HR1.out HB.out)); (case side4 => exact HC1.out); rintro e w14 ⟨v464, rfl, ho0, hb⟩; refine ⟨_, rfl, ?_⟩; have HO465 := zM (Kd.R_lower ho0 (ao zB)); replace BK460 := zM (am (g := gb460) (o := .cells #[.int .i64 a0_0, .slice A0_1 l0_1.length c0_1] 29 (0, 0)) (zK BK460.out) hb); replace HB := zM (ag zB hb); (try clear hb); (try clear hb2); (try clear hk); (try clear hi); (try clear ho0)))
     go_ret2
     exact ⟨_, by first | rfl | (simp [aj, ai] <;> rfl) | (simp [*, aj, ai] <;> rfl), by (with_reducible repeat (first | apply Kd.R_alloc | apply Kd.R_drewN | apply Kd.R_drew)); exact HO465.out, zB⟩
   · replace c6 := Bool.eq_false_iff.mpr c6
     subst c6
     have H1 : (some (([] : List Int), false)) = some (r1, r2) := by rw [if_neg (show ¬ (false = true) by decide)] at H; exact H
     clear H
     have H := H1
     clear H1
     simp only [Option.some.injEq, Prod.mk.injEq] at H
     obtain ⟨rfl, rfl⟩ := H
     go_enter Tryz.func9, Tryz.ntmps9
     go_wp2_with (first | ((with_reducible refine ar (N := 2) rfl ?_); refine zb (w := w) 2 #[.int .i64 a0_0, .slice A0_1 l0_1.length c0_1] 29 zB ?_; clear HB; intro gb460 w15 HB BK460 GW460; have GE460 := GW460; have hcz16_0 := zy BK460 0; have hcz16_1 := zy BK460 1; have hfz16_0 := ae BK460.out 0; have hfz16_1 := ae BK460.out 1) | ((with_reducible refine az (f := 22) rfl ?_); refine zc 9 Tryz.func22 #[.agg #[.int .i64 a0_0, .slice A0_1 l0_1.length c0_1], .slice A1 l1.length c1, .slice A1 l1.length c1] ?_; (with_reducible refine (jB k a0_0 _ _ l0_1 _ _ l1 _ _ l1 true _ ?side1 ?side2 ?side3 ?side4 ?side5 ?side6 A3.out).mono ?_); (case side1 => exact zC (Kd.C_below HR0_1.out HB.out)); (case side2 => exact HC0_1.out); (case side3 => exact zC (Kd.C_below HR1.out HB.out)); (case side4 => exact HC1.out); (case side5 => exact zC (Kd.C_below HR1.out HB.out)); (case side6 => exact HC1.out); rintro e w17 ⟨rfl, hb⟩; refine ⟨_, rfl, ?_⟩; replace BK460 := zM (am (g := gb460) (o := .cells #[.int .i64 a0_0, .slice A0_1 l0_1.length c0_1] 29 (0, 0)) (zK BK460.out) hb); replace HB := zM (ag zB hb); (try clear hb); (try clear hb2); (try clear hk); (try clear hi); have hcz18_0 := zy BK460 0; have hcz18_1 := zy BK460 1; have hfz18_0 := ae BK460.out 0; have hfz18_1 := ae BK460.out 1) | (go_at_call 23; (with_reducible refine (l9 k a0_0 _ _ l0_1 false _ ?side1 ?side2 A5.out).mono ?_); (case side1 => exact zC (Kd.C_below HR0_1.out HB.out)); (case side2 => exact HC0_1.out); rintro e w19 ⟨rfl, hb⟩; replace BK460 := zM (am (g := gb460) (o := .cells #[.int .i64 a0_0, .slice A0_1 l0_1.length c0_1] 29 (0, 0)) (zK BK460.out) hb); replace HB := zM (ag zB hb); (try clear hb); (try clear hb2); (try clear hk); (try clear hi)))
     go_ret2
     exact ⟨_, by first | rfl | (simp [aj, ai] <;> rfl) | (simp [*, aj, ai] <;> rfl), by first | exact Kd.R_nil _ _ _ _ _ | exact Kd.N_nil _ _ _ _ _ | exact Kd.V_nil _ _ _ _ _ | exact Kd.Q_nil _ _ _ _ _ | exact Kd.S_nil _ _ _ _ _, zB⟩
 · replace c4 := Bool.eq_false_iff.mpr c4
   subst c4
   have H1 : (some (([] : List Int), false)) = some (r1, r2) := by rw [if_neg (show ¬ (false = true) by decide)] at H; exact H
   clear H
   have H := H1
   clear H1
   simp only [Option.some.injEq, Prod.mk.injEq] at H
   obtain ⟨rfl, rfl⟩ := H
   go_enter Tryz.func9, Tryz.ntmps9
   go_wp2_with (first | ((with_reducible refine ar (N := 2) rfl ?_); refine zb (w := w) 2 #[.int .i64 a0_0, .slice A0_1 l0_1.length c0_1] 29 zB ?_; clear HB; intro gb460 w20 HB BK460 GW460; have GE460 := GW460; have hcz21_0 := zy BK460 0; have hcz21_1 := zy BK460 1; have hfz21_0 := ae BK460.out 0; have hfz21_1 := ae BK460.out 1) | ((with_reducible refine az (f := 22) rfl ?_); refine zc 9 Tryz.func22 #[.agg #[.int .i64 a0_0, .slice A0_1 l0_1.length c0_1], .slice A1 l1.length c1, .slice A1 l1.length c1] ?_; (with_reducible refine (jB k a0_0 _ _ l0_1 _ _ l1 _ _ l1 false _ ?side1 ?side2 ?side3 ?side4 ?side5 ?side6 A3.out).mono ?_); (case side1 => exact zC (Kd.C_below HR0_1.out HB.out)); (case side2 => exact HC0_1.out); (case side3 => exact zC (Kd.C_below HR1.out HB.out)); (case side4 => exact HC1.out); (case side5 => exact zC (Kd.C_below HR1.out HB.out)); (case side6 => exact HC1.out); rintro e w22 ⟨rfl, hb⟩; refine ⟨_, rfl, ?_⟩; replace BK460 := zM (am (g := gb460) (o := .cells #[.int .i64 a0_0, .slice A0_1 l0_1.length c0_1] 29 (0, 0)) (zK BK460.out) hb); replace HB := zM (ag zB hb); (try clear hb); (try clear hb2); (try clear hk); (try clear hi)))
   go_ret2
   exact ⟨_, by first | rfl | (simp [aj, ai] <;> rfl) | (simp [*, aj, ai] <;> rfl), by first | exact Kd.R_nil _ _ _ _ _ | exact Kd.N_nil _ _ _ _ _ | exact Kd.V_nil _ _ _ _ _ | exact Kd.Q_nil _ _ _ _ _ | exact Kd.S_nil _ _ _ _ _, zB⟩

end Go.Proofs.YtjgcehldepfaaaaGreat.P
namespace Go.Proofs.YtjgcehldepfaaaaGreat.P
open Go.RowKit YtjgcehldepfaaaaGreatW.PrintWords Go.Proofs.YtjgcehldepfaaaaGreatW.PrintLast Go.Proofs.YtjgcehldepfaaaaGreatW.PrintMore
attribute [local go_sem] bk bg bh bc bi bd bj bf   -- for this text's walks alone
set_option linter.unusedVariables false
set_option linter.unusedSimpArgs false

/-! ### laws_markIntS: function 13 -/
def dO : Nat → List Int → Int → Int → Option (Int × List Int)
 | 0, _, _, _ => none
 | k + 1, x0, x1, x5 => if x5 < (x0.length : Int) then (if 0 ≤ x5 then (dO k (x0.set (x5 : Int).toNat x1) (wrap64 (x1 + 1)) (wrap64 (x5 + 1))) else (none)) else (some (x1, x0))
def eP (k : Nat) (l0 : List Int) (a1 : Int) : Option (Int × List Int) := dO k l0 a1 0
set_option maxHeartbeats 8000000 in
set_option maxRecDepth 100000 in
theorem lK (k : Nat) (P0_ : Nat → Prop) (u9000_ : Value) (l0 : List Int) (a1 : Int) (r1 : Int) (r2 : List Int) (w0 w : World) (hB : Below w0.heap.size w0 w) (ho0 : Kd.R (Kd.int .i64) 3 w w0.heap.size P0_ u9000_ l0) (h : eP k l0 a1 = some (r1, r2)) :
 Calls Tryz.prog 13 #[u9000_, .int .i64 a1] w fun e w' => e = .returned (.int .i64 r1) ∧ Kd.R (Kd.int .i64) 3 w' w0.heap.size (fun k_ => (P0_ k_ ∨ w.heap.size ≤ k_)) u9000_ r2 ∧ Below w0.heap.size w0 w' ∧ Kept w w' (fun k_ => P0_ k_) := by
 have HO0 := zM (show Kd.R (Kd.int .i64) 3 w w0.heap.size (fun k_ => (P0_ k_ ∨ w.heap.size ≤ k_)) u9000_ l0 from Kd.R_mono ho0 (fun k_ hk => (.inl hk)))
 have HK := zM (Kept.refl w (fun k_ => P0_ k_))
 have HW0 := Aside0.mk hB.size
 have HB := Aside0.mk hB
 clear hB
 have H : (dO k l0 a1 0) = some (r1, r2) := h
 clear h
 have H' := Aside0.mk H
 clear H
 go_enter Tryz.func13, Tryz.ntmps13
 go_wp2
 go_loopg [1, 5] k (fun kq v1 v5 w' => ∃ (x0_1 : List Int) (x1_1 : Int) (x5_1 : Int), v1 = .int .i64 x1_1 ∧ v5 = .int .i64 x5_1 ∧ Aside0 (dO kq x0_1 x1_1 x5_1 = some (r1, r2)) ∧ Aside0 (kq ≤ k) ∧ Aside0 (Kd.R (Kd.int .i64) 3 w' w0.heap.size (fun k_ => (P0_ k_ ∨ w.heap.size ≤ k_)) u9000_ x0_1) ∧ Aside0 (Kept w w' (fun k_ => P0_ k_)) ∧ Aside0 (Below w0.heap.size w0 w'))
 case atStart => exact ⟨(l0), (a1), (0), (by first | rfl | (simp; done) | (simp [*]; done)), (by first | rfl | (simp; done) | (simp [*]; done)), H', ⟨av _⟩, ⟨zR HO0.out⟩, ⟨by repeat (first | (with_reducible first | exact HK.out | apply Kept.alloc | apply Kept.drewN | apply Kept.drew) | exact HK.out)⟩, ⟨zB⟩⟩
 case round =>
  clear H'
  try clear c1
  try clear p2
  obtain ⟨x0_1, x1_1, x5_1, rfl, rfl, HA, HK1, HO_0, HK, HB⟩ := hrel
  cases gk with
  | zero => exact absurd HA.out (by simp [dO])
  | succ k1 =>
   have H := HA.out
   clear HA
   simp only [dO] at H
   by_cases c3 : x5_1 < (x0_1.length : Int)
   · rw [if_pos c3] at H
     have c3b0 := af c3
     clear c3
     by_cases c4 : 0 ≤ x5_1
     · rw [if_pos c4] at H
       have c4b0 := af c4
       clear c4
       obtain ⟨y132, hy132⟩ : ∃ y_ : List Int, y_ = (x0_1.set (x5_1 : Int).toNat x1_1) := ⟨_, rfl⟩
       replace H : (dO k1 y132 (wrap64 (x1_1 + 1)) (wrap64 (x5_1 + 1))) = some (r1, r2) := by first | (rw [hy132]; with_reducible exact H) | (have H2_ := (Option.bind_some _ _).symm.trans H; rw [hy132]; with_reducible exact H2_) | (have H2_ := (Option.bind_some _ _).symm.trans H; with_reducible exact H2_) | with_reducible exact H | (rw [hy132]; exact H) | exact H
       have Ny132 := Aside0.mk hy132
       clear hy132
       have H' := Aside0.mk H
       clear H
       obtain ⟨Ao6, co6, eo6⟩ := Kd.R_slice HO_0.out
       subst eo6
       have p5 : 0 ≤ (x5_1 : Int) := ac zA
       have q5 : (x5_1 : Int) < ((x0_1.length : Int) : Int) := ac zA
       obtain ⟨go5, co5, eo5, gb5, gl5, cl5, HG5⟩ := Kd.R_form HO_0.out (by omega)
       (first | cases eo5 | (injection eo5 with ea_ en_ ec_; (first | subst ea_ | (injection ea_ with ea_; subst ea_)); subst ec_; clear en_))
       have GB5 := Aside0.mk gb5
       have GG5 := Aside0.mk HG5
       clear gb5 gl5 HG5
       have HMgo5 := zM (show (P0_ go5 ∨ w.heap.size ≤ go5) from (HO_0.out.1 _ rfl))
       obtain ⟨hx5_0, hf5_0⟩ := Kd.R_celln 0 HO_0.out (x5_1 : Int) p5 q5
       replace p5 := eq_true p5
       replace q5 := eq_true q5
       have HP7 := Kd.R_putg HO_0.out (x5_1 : Int) x1_1
       go_wp2_with (first | ((with_reducible refine eB (t := 3) (p := 15) rfl ?_); refine en (t := 3) (p := 15) (v := ?vo_w8) (w1 := (wr.setCell ⟨go5, (x5_1 : Int).toNat, none⟩ (.int .i64 x1_1))) ?hg ?ho ?hn ?hr ?_; (case ho => rfl); (case hg => rfl); (case hn => rfl); (case hr => first | (go_simp; done) | (go_simp; rfl)); intro w8 hw; have hg : wr.grownBy w8 (some go5) := (by rw [hw]; exact HP7.2); have hp_ : Kd.R (Kd.int .i64) 3 w8 w0.heap.size (fun k_ => (P0_ k_ ∨ w.heap.size ≤ k_)) (.slice (some ⟨go5, 0, none⟩) x0_1.length co6) y132 := (by rw [hw, Ny132.out]; exact HP7.1); clear HP7; replace HB := zM ((by rw [hw]; exact bE (HB.out) GB5.out : Below w0.heap.size w0 w8)); replace HK := zM (Kept.of_grown (S := (fun k_ => P0_ k_)) hg (by repeat (first | (with_reducible first | exact HK.out | apply Kept.alloc | apply Kept.drewN | apply Kept.drew) | exact HK.out)) (fun k_ e_ => (HO_0.out.1 k_ e_))); replace HO_0 := zM (hp_); clear hg hw hp_))
       go_roundg k1
       case measure => have := HK1.out; omega
       case rel => exact ⟨(y132), (wrap64 (x1_1 + 1)), (wrap64 (x5_1 + 1)), (by first | rfl | (simp; done) | (simp [*]; done)), (by first | rfl | (simp; done) | (simp [*]; done)), H', ⟨by have := HK1.out; omega⟩, ⟨zR HO_0.out⟩, ⟨by repeat (first | (with_reducible first | exact HK.out | apply Kept.alloc | apply Kept.drewN | apply Kept.drew) | exact HK.out)⟩, ⟨zB⟩⟩
     · rw [if_neg c4] at H
       exact absurd H (by simp)
   · rw [if_neg c3] at H
     have c3b0 : decide (x5_1 < (x0_1.length : Int)) = false := au c3
     clear c3
     simp only [Option.some.injEq, Prod.mk.injEq] at H
     obtain ⟨rfl, rfl⟩ := H
     obtain ⟨Ao9, co9, eo9⟩ := Kd.R_slice HO_0.out
     subst eo9
     go_wp2
     go_ret
     exact ⟨by first | rfl | (simp [aj, ai] <;> rfl) | (simp [*, aj, ai] <;> rfl), by (with_reducible repeat (first | apply Kd.R_alloc | apply Kd.R_drewN | apply Kd.R_drew)); exact HO_0.out, by repeat (first | (with_reducible first | exact HB.out | apply bu | apply bZ | apply aD) | exact HB.out), by repeat (first | (with_reducible first | exact HK.out | apply Kept.alloc | apply Kept.drewN | apply Kept.drew) | exact HK.out)⟩

end Go.Proofs.YtjgcehldepfaaaaGreat.P
namespace Go.Proofs.YtjgcehldepfaaaaGreat.P
open Go.RowKit YtjgcehldepfaaaaGreatW.PrintWords Go.Proofs.YtjgcehldepfaaaaGreatW.PrintLast Go.Proofs.YtjgcehldepfaaaaGreatW.PrintMore
attribute [local go_sem] bk bg bh bc bi bd bj bf   -- for this text's walks alone
set_option linter.unusedVariables false
set_option linter.unusedSimpArgs false

/-! ### laws_heldIntS: function 14 -/
def d6 : Nat → List Int → Int → Int → Option (Int)
 | 0, _, _, _ => none
 | k + 1, x0, x1, x5 => if x5 < (x0.length : Int) then (if 0 ≤ x5 then (if (rd x0 x5) = x1 then (d6 k x0 (wrap64 (x1 + 1)) (wrap64 (x5 + 1))) else (some (-1))) else (none)) else (some x1)
def gD (k : Nat) (l0 : List Int) (a1 : Int) : Option (Int) := d6 k l0 a1 0
set_option maxHeartbeats 8000000 in
set_option maxRecDepth 100000 in
theorem lL (k : Nat) (A0 : Option Addr) (c0 : Nat) (l0 : List Int) (a1 : Int) (r : Int) (w : World) (hr0 : Kd.C (Kd.int .i64) w A0 l0.length l0) (hc0 : l0.length ≤ c0) (h : gD k l0 a1 = some r) :
 Calls Tryz.prog 14 #[.slice A0 l0.length c0, .int .i64 a1] w fun e w' => e = .returned (.int .i64 r) ∧ Drawn0 w w' := by
 have HR0 := Aside0.mk hr0
 have HC0 := Aside0.mk hc0
 clear hr0 hc0
 have H : (d6 k l0 a1 0) = some r := h
 clear h
 have H' := Aside0.mk H
 clear H
 go_enter Tryz.func14, Tryz.ntmps14
 go_wp2
 go_loopg [1, 5] k (fun kq v1 v5 w' => ∃ (x1_1 : Int) (x5_1 : Int), v1 = .int .i64 x1_1 ∧ v5 = .int .i64 x5_1 ∧ Aside0 (d6 kq l0 x1_1 x5_1 = some r) ∧ Aside0 (kq ≤ k) ∧ Drawn0 w w')
 case atStart => exact ⟨(a1), (0), (by first | rfl | (simp; done) | (simp [*]; done)), (by first | rfl | (simp; done) | (simp [*]; done)), H', ⟨av _⟩, by repeat (first | exact Drawn0.refl _ | apply Drawn0.step)⟩
 case round =>
  clear H'
  try clear c1
  try clear p2
  obtain ⟨x1_1, x5_1, rfl, rfl, HA, HK1, ⟨m1, rfl⟩⟩ := hrel
  cases gk with
  | zero => exact absurd HA.out (by simp [d6])
  | succ k1 =>
   have H := HA.out
   clear HA
   simp only [d6] at H
   by_cases c3 : x5_1 < (l0.length : Int)
   · rw [if_pos c3] at H
     have c3b0 := af c3
     clear c3
     by_cases c4 : 0 ≤ x5_1
     · rw [if_pos c4] at H
       have c4b0 := af c4
       clear c4
       by_cases c5 : (rd l0 x5_1) = x1_1
       · rw [if_pos c5] at H
         have c5b0 : ((rd l0 x5_1) == x1_1) = true := beq_iff_eq.mpr c5
         have c5b1 : ((rd l0 x5_1) != x1_1) = false := bne_eq_false_iff_eq.mpr c5
         clear c5
         have H' := Aside0.mk H
         clear H
         have p133 : 0 ≤ (x5_1 : Int) := ac zA
         have q133 : x5_1 < (l0.length : Int) := ac zA
         obtain ⟨ad133, e133, hx133_0⟩ := Kd.at_int HR0.out x5_1 p133 q133
         cases e133
         replace p133 := eq_true p133
         replace q133 := eq_true q133
         go_wp2
         go_roundg k1
         case measure => have := HK1.out; omega
         case rel => exact ⟨(wrap64 (x1_1 + 1)), (wrap64 (x5_1 + 1)), (by first | rfl | (simp; done) | (simp [*]; done)), (by first | rfl | (simp; done) | (simp [*]; done)), H', ⟨by have := HK1.out; omega⟩, by repeat (first | exact Drawn0.refl _ | apply Drawn0.step)⟩
       · rw [if_neg c5] at H
         have c5b0 : ((rd l0 x5_1) == x1_1) = false := beq_eq_false_iff_ne.mpr c5
         have c5b1 : ((rd l0 x5_1) != x1_1) = true := bne_iff_ne.mpr c5
         obtain rfl := aq H
         have p133 : 0 ≤ (x5_1 : Int) := ac zA
         have q133 : x5_1 < (l0.length : Int) := ac zA
         obtain ⟨ad133, e133, hx133_0⟩ := Kd.at_int HR0.out x5_1 p133 q133
         cases e133
         replace p133 := eq_true p133
         replace q133 := eq_true q133
         go_wp2
         go_ret
         exact ⟨by first | rfl | (simp; done) | (simp [*]; done), by repeat (first | exact Drawn0.refl _ | apply Drawn0.step)⟩
     · rw [if_neg c4] at H
       exact absurd H (by simp)
   · rw [if_neg c3] at H
     have c3b0 : decide (x5_1 < (l0.length : Int)) = false := au c3
     clear c3
     obtain rfl := aq H
     go_wp2
     go_ret
     exact ⟨by first | rfl | (simp; done) | (simp [*]; done), by repeat (first | exact Drawn0.refl _ | apply Drawn0.step)⟩

end Go.Proofs.YtjgcehldepfaaaaGreat.P
namespace Go.Proofs.YtjgcehldepfaaaaGreat.P
open Go.RowKit YtjgcehldepfaaaaGreatW.PrintWords Go.Proofs.YtjgcehldepfaaaaGreatW.PrintLast Go.Proofs.YtjgcehldepfaaaaGreatW.PrintMore
set_option linter.unusedVariables false
set_option linter.unusedSimpArgs false
set_option maxRecDepth 100000 in
set_option maxHeartbeats 4000000 in
theorem pS (a0_0 : Int) (A0_1 : Option Addr) (ca0_1 : Nat) (l0_1 : List (S63)) (A1 : Option Addr) (ca1 : Nat) (l1 : List Int) (w : World) (hr0_1 : Kd.C k63 w A0_1 l0_1.length l0_1) (hc0_1 : l0_1.length ≤ ca0_1) (hr1 : Kd.C (Kd.int .i64) w A1 l1.length l1) (hc1 : l1.length ≤ ca1) (c0 : 1048576 < (l1.length : Int)) :
    Calls Tryz.prog 3 #[.agg #[.int .i64 a0_0, .slice A0_1 l0_1.length ca0_1], .slice A1 l1.length ca1] w fun e w' => e = .returned (.bool true) ∧ Below w.heap.size w w' := by
  have hu24 := Tryz.underlying24
  have hu29 := Tryz.underlying29
  have HR0_1 := zM hr0_1; clear hr0_1
  have HC0_1 := zM hc0_1; clear hc0_1
  have HR1 := zM hr1; clear hr1
  have HC1 := zM hc1; clear hc1
  have HB := zM (Below.refl w.heap.size w)
  have c0b : decide (1048576 < (l1.length : Int)) = true := af c0
  have c0c : decide (1048576 < l1.length) = true := af (by omega)
  clear c0
  go_enter Tryz.func3, Tryz.ntmps3
  go_wp2_with (first
    | ((with_reducible refine ar (N := 2) rfl ?_); refine ze 2 #[.int .i64 a0_0, .slice A0_1 l0_1.length ca0_1] 24 ?_; intro gb2 hg w1 hbox hb; have HG2 := zM hg; have HW2 := zM (show w.heap.size ≤ gb2 by rw [hg]; exact ao HB.out); have HL2 := zM (aE hbox); clear hg; have HS1 := zM hb.size; replace HB := zM (ag HB.out hb); have BK2 := zM hbox; clear hbox hb; have hc2_0 := zy BK2 0; have hf2_0 := ae BK2.out 0; have hc2_1 := zy BK2 1; have hf2_1 := ae BK2.out 1))
  go_ret
  exact ⟨rfl, HB.out⟩
set_option maxRecDepth 100000 in
set_option maxHeartbeats 4000000 in
theorem pR (a0_0 : Int) (A0_1 : Option Addr) (ca0_1 : Nat) (l0_1 : List (S63)) (A1 : Option Addr) (ca1 : Nat) (l1 : List Int) (t0 : Int) (w : World) (hr0_1 : Kd.C k63 w A0_1 l0_1.length l0_1) (hc0_1 : l0_1.length ≤ ca0_1) (hr1 : Kd.C (Kd.int .i64) w A1 l1.length l1) (hc1 : l1.length ≤ ca1) (c0 : ¬ (1048576 < (l1.length : Int))) (c1 : t0 < 0) (h0 : gC a0_0 l0_1 1048576 = some t0) :
    Calls Tryz.prog 3 #[.agg #[.int .i64 a0_0, .slice A0_1 l0_1.length ca0_1], .slice A1 l1.length ca1] w fun e w' => e = .returned (.bool true) ∧ Below w.heap.size w w' := by
  have hu24 := Tryz.underlying24
  have hu29 := Tryz.underlying29
  have HR0_1 := zM hr0_1; clear hr0_1
  have HC0_1 := zM hc0_1; clear hc0_1
  have HR1 := zM hr1; clear hr1
  have HC1 := zM hc1; clear hc1
  have HB := zM (Below.refl w.heap.size w)
  have H0 := zM h0; clear h0
  have c0b : decide (1048576 < (l1.length : Int)) = false := au c0
  have c0c : decide (1048576 < l1.length) = false := au (by omega)
  clear c0
  have c1b : decide (t0 < 0) = true := af c1
  clear c1
  go_enter Tryz.func3, Tryz.ntmps3
  go_wp2_with (first
    | ((with_reducible refine ar (N := 2) rfl ?_); refine ze 2 #[.int .i64 a0_0, .slice A0_1 l0_1.length ca0_1] 24 ?_; intro gb2 hg w1 hbox hb; have HG2 := zM hg; have HW2 := zM (show w.heap.size ≤ gb2 by rw [hg]; exact ao HB.out); have HL2 := zM (aE hbox); clear hg; have HS1 := zM hb.size; replace HB := zM (ag HB.out hb); have BK2 := zM hbox; clear hbox hb; have hc2_0 := zy BK2 0; have hf2_0 := ae BK2.out 0; have hc2_1 := zy BK2 1; have hf2_1 := ae BK2.out 1)
    | (have hst_ : Aside0 (Below w.heap.size w w1) := HB; clear hst_; go_at_call 5; refine (lJ a0_0 _ _ l0_1 1048576 t0 _ ?side1 ?side2 H0.out).mono ?_; (case side1 => exact zC (Kd.C_below HR0_1.out HB.out)); (case side2 => exact HC0_1.out); rintro e w2 ⟨rfl, hb⟩; replace BK2 := bB BK2 hb; have HS2 := zM hb.size; replace HB := zM (ag HB.out hb); clear hb; replace hc2_0 := zy BK2 0; replace hf2_0 := ae BK2.out 0; replace hc2_1 := zy BK2 1; replace hf2_1 := ae BK2.out 1))
  go_ret
  exact ⟨rfl, HB.out⟩
set_option maxRecDepth 100000 in
set_option maxHeartbeats 4000000 in
theorem pQ (a0_0 : Int) (A0_1 : Option Addr) (ca0_1 : Nat) (l0_1 : List (S63)) (A1 : Option Addr) (ca1 : Nat) (l1 : List Int) (k1 k2 k3 k4 k5 k6 k7 k9 k10 k11 : Nat) (t0 : Int) (q0 : List Int) (q1 : Bool) (kk0 : Int) (mk0_0 : List (S63)) (kk1 : Int) (mk1_0 : List Int) (kk2 : Int) (mk2_0 : List Int) (w : World) (hr0_1 : Kd.C k63 w A0_1 l0_1.length l0_1) (hc0_1 : l0_1.length ≤ ca0_1) (hr1 : Kd.C (Kd.int .i64) w A1 l1.length l1) (hc1 : l1.length ≤ ca1) (c0 : ¬ (1048576 < (l1.length : Int))) (c1 : ¬ (t0 < 0)) (h0 : gC a0_0 l0_1 1048576 = some t0) (h1 : iw k1 a0_0 l0_1 = some (a0_0, l0_1)) (h2 : iu k2 l1 = some l1) (h3 : fz k3 a0_0 l0_1 l1 = some (q0, q1)) (h4 : fW k4 a0_0 l0_1 l1 = some (q0, q1)) (h5 : gE k5 q0 q0 = some true) (h6 : iD k6 a0_0 l0_1 a0_0 l0_1 = some true) (h7 : gE k7 l1 l1 = some true) (h8 : iA a0_0 l0_1 1 = some (kk0, mk0_0)) (h9 : eP k9 l1 kk0 = some (kk1, mk1_0)) (h10 : eP k10 q0 1 = some (kk2, mk2_0)) (h11 : gD k11 mk2_0 1 = some kk2) (nkk1 : ¬ (kk1 < 0)) (nkk2 : ¬ (kk2 < 0)) :
    Calls Tryz.prog 3 #[.agg #[.int .i64 a0_0, .slice A0_1 l0_1.length ca0_1], .slice A1 l1.length ca1] w fun e w' => e = .returned (.bool true) ∧ Below w.heap.size w w' := by
  have hu24 := Tryz.underlying24
  have hu29 := Tryz.underlying29
  have HR0_1 := zM hr0_1; clear hr0_1
  have HC0_1 := zM hc0_1; clear hc0_1
  have HR1 := zM hr1; clear hr1
  have HC1 := zM hc1; clear hc1
  have HB := zM (Below.refl w.heap.size w)
  have H0 := zM h0; clear h0
  have H1 := zM h1; clear h1
  have H2 := zM h2; clear h2
  have H3 := zM h3; clear h3
  have H4 := zM h4; clear h4
  have H5 := zM h5; clear h5
  have H6 := zM h6; clear h6
  have H7 := zM h7; clear h7
  have H8 := zM h8; clear h8
  have H9 := zM h9; clear h9
  have H10 := zM h10; clear h10
  have H11 := zM h11; clear h11
  have c0b : decide (1048576 < (l1.length : Int)) = false := au c0
  have c0c : decide (1048576 < l1.length) = false := au (by omega)
  clear c0
  have c1b : decide (t0 < 0) = false := au c1
  clear c1
  have nkk1b : decide (kk1 < 0) = false := au nkk1
  clear nkk1
  have nkk2b : decide (kk2 < 0) = false := au nkk2
  clear nkk2
  go_enter Tryz.func3, Tryz.ntmps3
  go_upto_region 13 with (first
    | ((with_reducible refine ar (N := 2) rfl ?_); refine ze 2 #[.int .i64 a0_0, .slice A0_1 l0_1.length ca0_1] 24 ?_; intro gb2 hg w1 hbox hb; have HG2 := zM hg; have HW2 := zM (show w.heap.size ≤ gb2 by rw [hg]; exact ao HB.out); have HL2 := zM (aE hbox); clear hg; have HS1 := zM hb.size; replace HB := zM (ag HB.out hb); have BK2 := zM hbox; clear hbox hb; have hc2_0 := zy BK2 0; have hf2_0 := ae BK2.out 0; have hc2_1 := zy BK2 1; have hf2_1 := ae BK2.out 1)
    | (have hst_ : Aside0 (Below w.heap.size w w1) := HB; clear hst_; go_at_call 5; refine (lJ a0_0 _ _ l0_1 1048576 t0 _ ?side1 ?side2 H0.out).mono ?_; (case side1 => exact zC (Kd.C_below HR0_1.out HB.out)); (case side2 => exact HC0_1.out); rintro e w2 ⟨rfl, hb⟩; replace BK2 := bB BK2 hb; have HS2 := zM hb.size; replace HB := zM (ag HB.out hb); clear hb; replace hc2_0 := zy BK2 0; replace hf2_0 := ae BK2.out 0; replace hc2_1 := zy BK2 1; replace hf2_1 := ae BK2.out 1)
    | (have hst_ : Aside0 (Below w.heap.size w w2) := HB; clear hst_; go_at_call 7; refine (ix k1 a0_0 _ _ l0_1 a0_0 l0_1 _ ?side1 ?side2 H1.out).mono ?_; (case side1 => exact zC (Kd.C_below HR0_1.out HB.out)); (case side2 => exact HC0_1.out); rintro e w3 ⟨v0_0, rfl, ho0, hb⟩; replace BK2 := bB BK2 hb; have HS3 := zM hb.size; have HO0_0 := uR HB.out (by first | exact ho0 | exact Kd.R_mono ho0 (fun _ _ => trivial) | exact Kd.R_mono ho0 (fun _ hk_ => hk_.1)); clear ho0; obtain ⟨Ao0_0, co0_0, eo0_0⟩ := Kd.R_slice HO0_0.out; subst eo0_0; replace HB := zM (ag HB.out hb); clear hb; replace hc2_0 := zy BK2 0; replace hf2_0 := ae BK2.out 0; replace hc2_1 := zy BK2 1; replace hf2_1 := ae BK2.out 1)
    | (have hst_ : Aside0 (Below w.heap.size w w3) := HB; clear hst_; go_at_call 8; refine (iv k2 _ _ l1 l1 _ ?side1 ?side2 H2.out).mono ?_; (case side1 => exact zC (Kd.C_below HR1.out HB.out)); (case side2 => exact HC1.out); rintro e w4 ⟨v1_0, rfl, ho0, hb⟩; replace HO0_0 := aN HO0_0 hb; replace BK2 := bB BK2 hb; have HS4 := zM hb.size; have HO1_0 := uR HB.out (by first | exact ho0 | exact Kd.R_mono ho0 (fun _ _ => trivial) | exact Kd.R_mono ho0 (fun _ hk_ => hk_.1)); clear ho0; obtain ⟨Ao1_0, co1_0, eo1_0⟩ := Kd.R_slice HO1_0.out; subst eo1_0; replace HB := zM (ag HB.out hb); clear hb; replace hc2_0 := zy BK2 0; replace hf2_0 := ae BK2.out 0; replace hc2_1 := zy BK2 1; replace hf2_1 := ae BK2.out 1)
    | (have hst_ : Aside0 (Below w.heap.size w w4) := HB; clear hst_; go_at_call 6; refine (nP k3 a0_0 _ _ l0_1 _ _ l1 q0 q1 _ ?side1 ?side2 ?side3 ?side4 H3.out).mono ?_; (case side1 => exact zC (Kd.R_reads' HO0_0.out).2.2); (case side2 => exact (Kd.R_reads' HO0_0.out).2.1); (case side3 => exact zC (Kd.R_reads' HO1_0.out).2.2); (case side4 => exact (Kd.R_reads' HO1_0.out).2.1); clear HO0_0; clear HO1_0; rintro e w5 ⟨v2_0, rfl, ho0, hb⟩; replace BK2 := bB BK2 hb; have HS5 := zM hb.size; have HO2_0 := uR HB.out (by first | exact ho0 | exact Kd.R_mono ho0 (fun _ _ => trivial) | exact Kd.R_mono ho0 (fun _ hk_ => hk_.1)); clear ho0; obtain ⟨Ao2_0, co2_0, eo2_0⟩ := Kd.R_slice HO2_0.out; subst eo2_0; replace HB := zM (ag HB.out hb); clear hb; replace hc2_0 := zy BK2 0; replace hf2_0 := ae BK2.out 0; replace hc2_1 := zy BK2 1; replace hf2_1 := ae BK2.out 1)
    | (have hst_ : Aside0 (Below w.heap.size w w5) := HB; clear hst_; go_at_call 7; refine (ix k1 a0_0 _ _ l0_1 a0_0 l0_1 _ ?side1 ?side2 H1.out).mono ?_; (case side1 => exact zC (Kd.C_below HR0_1.out HB.out)); (case side2 => exact HC0_1.out); rintro e w6 ⟨v3_0, rfl, ho0, hb⟩; replace HO2_0 := aN HO2_0 hb; replace BK2 := bB BK2 hb; have HS6 := zM hb.size; have HO3_0 := uR HB.out (by first | exact ho0 | exact Kd.R_mono ho0 (fun _ _ => trivial) | exact Kd.R_mono ho0 (fun _ hk_ => hk_.1)); clear ho0; obtain ⟨Ao3_0, co3_0, eo3_0⟩ := Kd.R_slice HO3_0.out; subst eo3_0; replace HB := zM (ag HB.out hb); clear hb; replace hc2_0 := zy BK2 0; replace hf2_0 := ae BK2.out 0; replace hc2_1 := zy BK2 1; replace hf2_1 := ae BK2.out 1)
    | ((with_reducible refine ar (N := 8) rfl ?_); refine ze 8 #[.int .i64 0, .slice none 0 0] 29 ?_; intro gb8 hg w7 hbox hb; have HG8 := zM hg; have HW8 := zM (show w.heap.size ≤ gb8 by rw [hg]; exact ao HB.out); have HL8 := zM (aE hbox); clear hg; replace HO2_0 := aN HO2_0 hb; replace HO3_0 := aN HO3_0 hb; replace BK2 := bB BK2 hb; have HS7 := zM hb.size; replace HB := zM (ag HB.out hb); have hn2_8 : gb2 ≠ gb8 := (by have := HG8.out; have := HL2.out; have := HS2.out; have := HS3.out; have := HS4.out; have := HS5.out; have := HS6.out; omega); have hn8_2 := hn2_8.symm; have BK8 := zM hbox; clear hbox hb; replace hc2_0 := zy BK2 0; replace hf2_0 := ae BK2.out 0; replace hc2_1 := zy BK2 1; replace hf2_1 := ae BK2.out 1; have hc8_0 := zy BK8 0; have hf8_0 := ae BK8.out 0; have hc8_1 := zy BK8 1; have hf8_1 := ae BK8.out 1)
    | (have hst_ : Aside0 (Below w.heap.size w w7) := HB; clear hst_; go_at_call 8; refine kj BK8 HB HW8.out ?_; intro w8 BKn hk HBn; replace HO2_0 := em HO2_0 hk (fun k_ hk_ e_ => by have e2 : k_ = gb8 := e_; have := HG8.out; have := HL8.out; have h2 : w4.heap.size ≤ k_ ∧ k_ < w5.heap.size := hk_; have := HS6.out; omega); replace HO3_0 := em HO3_0 hk (fun k_ hk_ e_ => by have e2 : k_ = gb8 := e_; have := HG8.out; have := HL8.out; have h2 : w5.heap.size ≤ k_ ∧ k_ < w6.heap.size := hk_; omega); replace BK2 := g8 BK2 hk (fun e_ => by have e2 : gb2 = gb8 := e_; have := HG8.out; have := HL8.out; have := HG2.out; have := HL2.out; have := HS2.out; have := HS3.out; have := HS4.out; have := HS5.out; have := HS6.out; omega); replace BK8 := BKn; replace HB := HBn; clear BKn HBn; have HS8 := zM hk.1; clear hk; refine (iv k2 _ _ l1 l1 _ ?side1 ?side2 H2.out).mono ?_; (case side1 => exact zC (Kd.C_below HR1.out HB.out)); (case side2 => exact HC1.out); rintro e w9 ⟨v4_0, rfl, ho0, hb⟩; replace HO2_0 := aN HO2_0 hb; replace HO3_0 := aN HO3_0 hb; replace BK2 := bB BK2 hb; replace BK8 := bB BK8 hb; have HS9 := zM hb.size; have HO4_0 := uR HB.out (by first | exact ho0 | exact Kd.R_mono ho0 (fun _ _ => trivial) | exact Kd.R_mono ho0 (fun _ hk_ => hk_.1)); clear ho0; obtain ⟨Ao4_0, co4_0, eo4_0⟩ := Kd.R_slice HO4_0.out; subst eo4_0; replace HB := zM (ag HB.out hb); clear hb; replace hc2_0 := zy BK2 0; replace hf2_0 := ae BK2.out 0; replace hc2_1 := zy BK2 1; replace hf2_1 := ae BK2.out 1; replace hc8_0 := zy BK8 0; replace hf8_0 := ae BK8.out 0; replace hc8_1 := zy BK8 1; replace hf8_1 := ae BK8.out 1)
    | (have hst_ : Aside0 (Below w.heap.size w w9) := HB; clear hst_; go_at_call 9; refine (ma k4 a0_0 _ _ l0_1 _ _ l1 q0 q1 _ ?side1 ?side2 ?side3 ?side4 H4.out).mono ?_; (case side1 => exact zC (Kd.R_reads' HO3_0.out).2.2); (case side2 => exact (Kd.R_reads' HO3_0.out).2.1); (case side3 => exact zC (Kd.R_reads' HO4_0.out).2.2); (case side4 => exact (Kd.R_reads' HO4_0.out).2.1); rintro e w10 ⟨v5_0, rfl, ho0, hb⟩; replace HO2_0 := aN HO2_0 hb; replace HO3_0 := aN HO3_0 hb; replace HO4_0 := aN HO4_0 hb; replace BK2 := bB BK2 hb; replace BK8 := bB BK8 hb; have HS10 := zM hb.size; have HO5_0 := uR HB.out (by first | exact ho0 | exact Kd.R_mono ho0 (fun _ _ => trivial) | exact Kd.R_mono ho0 (fun _ hk_ => hk_.1)); clear ho0; obtain ⟨Ao5_0, co5_0, eo5_0⟩ := Kd.R_slice HO5_0.out; subst eo5_0; replace HB := zM (ag HB.out hb); clear hb; replace hc2_0 := zy BK2 0; replace hf2_0 := ae BK2.out 0; replace hc2_1 := zy BK2 1; replace hf2_1 := ae BK2.out 1; replace hc8_0 := zy BK8 0; replace hf8_0 := ae BK8.out 0; replace hc8_1 := zy BK8 1; replace hf8_1 := ae BK8.out 1)
    | (have hst_ : Aside0 (Below w.heap.size w w10) := HB; clear hst_; go_at_call 10; refine (iB k5 _ _ q0 _ _ q0 true _ ?side1 ?side2 ?side3 ?side4 H5.out).mono ?_; (case side1 => exact zC (Kd.R_reads' HO5_0.out).2.2); (case side2 => exact (Kd.R_reads' HO5_0.out).2.1); (case side3 => exact zC (Kd.R_reads' HO2_0.out).2.2); (case side4 => exact (Kd.R_reads' HO2_0.out).2.1); rintro e w11 ⟨rfl, hb0⟩; have hb := hb0.below; clear hb0; replace HO2_0 := aN HO2_0 hb; replace HO3_0 := aN HO3_0 hb; replace HO4_0 := aN HO4_0 hb; replace HO5_0 := aN HO5_0 hb; replace BK2 := bB BK2 hb; replace BK8 := bB BK8 hb; have HS11 := zM hb.size; replace HB := zM (ag HB.out hb); clear hb; replace hc2_0 := zy BK2 0; replace hf2_0 := ae BK2.out 0; replace hc2_1 := zy BK2 1; replace hf2_1 := ae BK2.out 1; replace hc8_0 := zy BK8 0; replace hf8_0 := ae BK8.out 0; replace hc8_1 := zy BK8 1; replace hf8_1 := ae BK8.out 1))
  (try simp only [Act.put, List.setIfInBounds_toArray, List.set_cons_zero, List.set_cons_succ])
  replace HO2_0 := zM (Kd.R_drew HO2_0.out)
  replace HO3_0 := zM (Kd.R_drew HO3_0.out)
  replace HO4_0 := zM (Kd.R_drew HO4_0.out)
  replace HO5_0 := zM (Kd.R_drew HO5_0.out)
  replace BK2 := zM (ap BK2.out)
  replace BK8 := zM (ap BK8.out)
  replace HB := zM (aD HB.out)
  refine zs (n := 5) (fun w' => w'.cell? ⟨gb8, 0, none⟩ = some (.int .i64 a0_0) ∧ w'.cell? ⟨gb8, 1, none⟩ = some (.slice Ao3_0 l0_1.length co3_0) ∧ w'.cell? ⟨gb2, 0, none⟩ = some (.int .i64 a0_0) ∧ w'.cell? ⟨gb2, 1, none⟩ = some (.slice A0_1 l0_1.length ca0_1)) ⟨(ah BK8.out 0).trans rfl, (ah BK8.out 1).trans rfl, (ah BK2.out 0).trans rfl, (ah BK2.out 1).trans rfl⟩ (fun hHeld => ?_)
  have HS12 := zM (show w11.heap.size ≤ w11.drew.heap.size from av _)
  generalize w11.drew = w12 at HO2_0 HO3_0 HO4_0 HO5_0 BK2 BK8 HB HS12 hHeld ⊢
  refine zl 0 52 hHeld ?_ (hy := by rintro w' ⟨s0, s1, s2, s3⟩; go_simp; with_reducible rfl)
  refine zl 1 53 hHeld ?_ (hy := by rintro w' ⟨s0, s1, s2, s3⟩; go_simp; with_reducible rfl)
  refine zh 2 54 Tryz.func7 #[.agg #[.int .i64 a0_0, .slice A0_1 l0_1.length ca0_1]] (fun K hK => ?_)
  (refine (ix k1 a0_0 _ _ l0_1 a0_0 l0_1 _ ?side1 ?side2 H1.out).mono ?_; (case side1 => exact zC (Kd.C_below HR0_1.out HB.out)); (case side2 => exact HC0_1.out); rintro e w13 ⟨v6_0, rfl, ho0, hb⟩; replace HO2_0 := aN HO2_0 hb; replace HO3_0 := aN HO3_0 hb; replace HO4_0 := aN HO4_0 hb; replace HO5_0 := aN HO5_0 hb; replace BK2 := bB BK2 hb; replace BK8 := bB BK8 hb; have HS13 := zM hb.size; have HO6_0 := uR HB.out (by first | exact ho0 | exact Kd.R_mono ho0 (fun _ _ => trivial) | exact Kd.R_mono ho0 (fun _ hk_ => hk_.1)); clear ho0; obtain ⟨Ao6_0, co6_0, eo6_0⟩ := Kd.R_slice HO6_0.out; subst eo6_0; replace HB := zM (ag HB.out hb); clear hb)
  refine ⟨_, rfl, ?_⟩
  refine hK.out _ _ ⟨(ah BK8.out 0).trans rfl, (ah BK8.out 1).trans rfl, (ah BK2.out 0).trans rfl, (ah BK2.out 1).trans rfl⟩ (fun hHeld => ?_)
  clear hK K
  refine zn 54 ?_
  refine zh 3 55 Tryz.func11 #[.agg #[.int .i64 a0_0, .slice Ao3_0 l0_1.length co3_0], .agg #[.int .i64 a0_0, .slice Ao6_0 l0_1.length co6_0]] (fun K hK => ?_)
  (refine (pP k6 a0_0 _ _ l0_1 a0_0 _ _ l0_1 true _ ?side1 ?side2 ?side3 ?side4 H6.out).mono ?_; (case side1 => exact zC (Kd.R_reads' HO3_0.out).2.2); (case side2 => exact (Kd.R_reads' HO3_0.out).2.1); (case side3 => exact zC (Kd.R_reads' HO6_0.out).2.2); (case side4 => exact (Kd.R_reads' HO6_0.out).2.1); clear HO6_0; rintro e w14 ⟨rfl, hb⟩; replace HO2_0 := aN HO2_0 hb; replace HO3_0 := aN HO3_0 hb; replace HO4_0 := aN HO4_0 hb; replace HO5_0 := aN HO5_0 hb; replace BK2 := bB BK2 hb; replace BK8 := bB BK8 hb; have HS14 := zM hb.size; replace HB := zM (ag HB.out hb); clear hb)
  refine ⟨_, rfl, ?_⟩
  refine hK.out _ _ ⟨(ah BK8.out 0).trans rfl, (ah BK8.out 1).trans rfl, (ah BK2.out 0).trans rfl, (ah BK2.out 1).trans rfl⟩ (fun hHeld => ?_)
  clear hK K
  refine zn 55 ?_
  refine zq 4 56 ?_
  refine zx ?_
  replace hc2_0 := zy BK2 0
  replace hf2_0 := ae BK2.out 0
  replace hc2_1 := zy BK2 1
  replace hf2_1 := ae BK2.out 1
  replace hc8_0 := zy BK8 0
  replace hf8_0 := ae BK8.out 0
  replace hc8_1 := zy BK8 1
  replace hf8_1 := ae BK8.out 1
  go_wp2_with (first
    | (have hst_ : Aside0 (Below w.heap.size w w14) := HB; clear hst_; go_at_call 8; refine (iv k2 _ _ l1 l1 _ ?side1 ?side2 H2.out).mono ?_; (case side1 => exact zC (Kd.C_below HR1.out HB.out)); (case side2 => exact HC1.out); rintro e w15 ⟨v7_0, rfl, ho0, hb⟩; replace HO2_0 := aN HO2_0 hb; replace HO3_0 := aN HO3_0 hb; replace HO4_0 := aN HO4_0 hb; replace HO5_0 := aN HO5_0 hb; replace BK2 := bB BK2 hb; replace BK8 := bB BK8 hb; have HS15 := zM hb.size; have HO7_0 := uR HB.out (by first | exact ho0 | exact Kd.R_mono ho0 (fun _ _ => trivial) | exact Kd.R_mono ho0 (fun _ hk_ => hk_.1)); clear ho0; obtain ⟨Ao7_0, co7_0, eo7_0⟩ := Kd.R_slice HO7_0.out; subst eo7_0; replace HB := zM (ag HB.out hb); clear hb; replace hc2_0 := zy BK2 0; replace hf2_0 := ae BK2.out 0; replace hc2_1 := zy BK2 1; replace hf2_1 := ae BK2.out 1; replace hc8_0 := zy BK8 0; replace hf8_0 := ae BK8.out 0; replace hc8_1 := zy BK8 1; replace hf8_1 := ae BK8.out 1)
    | (have hst_ : Aside0 (Below w.heap.size w w15) := HB; clear hst_; go_at_call 10; refine (iB k7 _ _ l1 _ _ l1 true _ ?side1 ?side2 ?side3 ?side4 H7.out).mono ?_; (case side1 => exact zC (Kd.R_reads' HO4_0.out).2.2); (case side2 => exact (Kd.R_reads' HO4_0.out).2.1); (case side3 => exact zC (Kd.R_reads' HO7_0.out).2.2); (case side4 => exact (Kd.R_reads' HO7_0.out).2.1); clear HO7_0; rintro e w16 ⟨rfl, hb0⟩; have hb := hb0.below; clear hb0; replace HO2_0 := aN HO2_0 hb; replace HO3_0 := aN HO3_0 hb; replace HO4_0 := aN HO4_0 hb; replace HO5_0 := aN HO5_0 hb; replace BK2 := bB BK2 hb; replace BK8 := bB BK8 hb; have HS16 := zM hb.size; replace HB := zM (ag HB.out hb); clear hb; replace hc2_0 := zy BK2 0; replace hf2_0 := ae BK2.out 0; replace hc2_1 := zy BK2 1; replace hf2_1 := ae BK2.out 1; replace hc8_0 := zy BK8 0; replace hf8_0 := ae BK8.out 0; replace hc8_1 := zy BK8 1; replace hf8_1 := ae BK8.out 1)
    | (have hst_ : Aside0 (Below w.heap.size w w16) := HB; clear hst_; go_at_call 12; refine (pN a0_0 _ _ l0_1 1 kk0 mk0_0 w w16 HB.out HO3_0.out H8.out).mono ?_; clear HO3_0; clear BK8 hc8_0 hf8_0 hc8_1 hf8_1; rintro e w17 ⟨rfl, hy0, hb2, hk⟩; replace HO2_0 := em HO2_0 hk (fun k_ hk_ e_ => by have e2 : w5.heap.size ≤ k_ ∧ k_ < w6.heap.size := e_; have h2 : w4.heap.size ≤ k_ ∧ k_ < w5.heap.size := hk_; omega); replace HO4_0 := em HO4_0 hk (fun k_ hk_ e_ => by have e2 : w5.heap.size ≤ k_ ∧ k_ < w6.heap.size := e_; have h2 : w8.heap.size ≤ k_ ∧ k_ < w9.heap.size := hk_; have := HS7.out; have := HS8.out; omega); replace HO5_0 := em HO5_0 hk (fun k_ hk_ e_ => by have e2 : w5.heap.size ≤ k_ ∧ k_ < w6.heap.size := e_; have h2 : w9.heap.size ≤ k_ ∧ k_ < w10.heap.size := hk_; have := HS7.out; have := HS8.out; have := HS9.out; omega); replace BK2 := g8 BK2 hk (fun e_ => by have e2 : w5.heap.size ≤ gb2 ∧ gb2 < w6.heap.size := e_; have := HG2.out; have := HL2.out; have := HS2.out; have := HS3.out; have := HS4.out; have := HS5.out; omega); clear hy0; have HS17 := zM hk.1; replace HB := zM hb2; clear hb2 hk; replace hc2_0 := zy BK2 0; replace hf2_0 := ae BK2.out 0; replace hc2_1 := zy BK2 1; replace hf2_1 := ae BK2.out 1)
    | (have hst_ : Aside0 (Below w.heap.size w w17) := HB; clear hst_; go_at_call 13; refine (lK k9 _ _ l1 kk0 kk1 mk1_0 w w17 HB.out HO4_0.out H9.out).mono ?_; clear HO4_0; rintro e w18 ⟨rfl, hy0, hb2, hk⟩; replace HO2_0 := em HO2_0 hk (fun k_ hk_ e_ => by have e2 : w8.heap.size ≤ k_ ∧ k_ < w9.heap.size := e_; have h2 : w4.heap.size ≤ k_ ∧ k_ < w5.heap.size := hk_; have := HS6.out; have := HS7.out; have := HS8.out; omega); replace HO5_0 := em HO5_0 hk (fun k_ hk_ e_ => by have e2 : w8.heap.size ≤ k_ ∧ k_ < w9.heap.size := e_; have h2 : w9.heap.size ≤ k_ ∧ k_ < w10.heap.size := hk_; omega); replace BK2 := g8 BK2 hk (fun e_ => by have e2 : w8.heap.size ≤ gb2 ∧ gb2 < w9.heap.size := e_; have := HG2.out; have := HL2.out; have := HS2.out; have := HS3.out; have := HS4.out; have := HS5.out; have := HS6.out; have := HS7.out; have := HS8.out; omega); clear hy0; have HS18 := zM hk.1; replace HB := zM hb2; clear hb2 hk; replace hc2_0 := zy BK2 0; replace hf2_0 := ae BK2.out 0; replace hc2_1 := zy BK2 1; replace hf2_1 := ae BK2.out 1)
    | (have hst_ : Aside0 (Below w.heap.size w w18) := HB; clear hst_; go_at_call 10; refine (iB k5 _ _ q0 _ _ q0 true _ ?side1 ?side2 ?side3 ?side4 H5.out).mono ?_; (case side1 => exact zC (Kd.R_reads' HO5_0.out).2.2); (case side2 => exact (Kd.R_reads' HO5_0.out).2.1); (case side3 => exact zC (Kd.R_reads' HO2_0.out).2.2); (case side4 => exact (Kd.R_reads' HO2_0.out).2.1); rintro e w19 ⟨rfl, hb0⟩; have hb := hb0.below; clear hb0; replace HO2_0 := aN HO2_0 hb; replace HO5_0 := aN HO5_0 hb; replace BK2 := bB BK2 hb; have HS19 := zM hb.size; replace HB := zM (ag HB.out hb); clear hb; replace hc2_0 := zy BK2 0; replace hf2_0 := ae BK2.out 0; replace hc2_1 := zy BK2 1; replace hf2_1 := ae BK2.out 1)
    | (have hst_ : Aside0 (Below w.heap.size w w19) := HB; clear hst_; go_at_call 13; refine (lK k10 _ _ q0 1 kk2 mk2_0 w w19 HB.out HO5_0.out H10.out).mono ?_; rintro e w20 ⟨rfl, hy0, hb2, hk⟩; replace HO2_0 := em HO2_0 hk (fun k_ hk_ e_ => by have e2 : w9.heap.size ≤ k_ ∧ k_ < w10.heap.size := e_; have h2 : w4.heap.size ≤ k_ ∧ k_ < w5.heap.size := hk_; have := HS6.out; have := HS7.out; have := HS8.out; have := HS9.out; omega); replace BK2 := g8 BK2 hk (fun e_ => by have e2 : w9.heap.size ≤ gb2 ∧ gb2 < w10.heap.size := e_; have := HG2.out; have := HL2.out; have := HS2.out; have := HS3.out; have := HS4.out; have := HS5.out; have := HS6.out; have := HS7.out; have := HS8.out; have := HS9.out; omega); replace HO5_0 := zM (Kd.R_mono (Kd.R_bound hy0) (fun k_ hk_ => (Or.imp id (fun h_ => ⟨h_, hk_.2.2.1⟩) hk_.1 : (w9.heap.size ≤ k_ ∧ k_ < w10.heap.size) ∨ (w19.heap.size ≤ k_ ∧ k_ < w20.heap.size)))); clear hy0; have hl5_0 := (Kd.R_reads' HO5_0.out).1; rw [hl5_0] at HO5_0; replace hl5_0 := zM hl5_0; have HS20 := zM hk.1; replace HB := zM hb2; clear hb2 hk; replace hc2_0 := zy BK2 0; replace hf2_0 := ae BK2.out 0; replace hc2_1 := zy BK2 1; replace hf2_1 := ae BK2.out 1)
    | (have hst_ : Aside0 (Below w.heap.size w w20) := HB; clear hst_; go_at_call 14; refine km (args' := #[.slice Ao5_0 mk2_0.length co5_0, .int .i64 1]) (by rw [hl5_0.out]) ?_; refine (lL k11 _ _ mk2_0 1 kk2 _ ?side1 ?side2 H11.out).mono ?_; (case side1 => exact zC (Kd.R_reads' HO5_0.out).2.2); (case side2 => exact (Kd.R_reads' HO5_0.out).2.1); rintro e w21 ⟨rfl, hb0⟩; have hb := hb0.below; clear hb0; replace HO2_0 := aN HO2_0 hb; replace HO5_0 := aN HO5_0 hb; replace BK2 := bB BK2 hb; have HS21 := zM hb.size; replace HB := zM (ag HB.out hb); clear hb; replace hc2_0 := zy BK2 0; replace hf2_0 := ae BK2.out 0; replace hc2_1 := zy BK2 1; replace hf2_1 := ae BK2.out 1)
    | (have hst_ : Aside0 (Below w.heap.size w w21) := HB; clear hst_; go_at_call 7; refine (ix k1 a0_0 _ _ l0_1 a0_0 l0_1 _ ?side1 ?side2 H1.out).mono ?_; (case side1 => exact zC (Kd.C_below HR0_1.out HB.out)); (case side2 => exact HC0_1.out); clear BK2 hc2_0 hf2_0 hc2_1 hf2_1; rintro e w22 ⟨v8_0, rfl, ho0, hb⟩; replace HO2_0 := aN HO2_0 hb; replace HO5_0 := aN HO5_0 hb; have HS22 := zM hb.size; have HO8_0 := uR HB.out (by first | exact ho0 | exact Kd.R_mono ho0 (fun _ _ => trivial) | exact Kd.R_mono ho0 (fun _ hk_ => hk_.1)); clear ho0; obtain ⟨Ao8_0, co8_0, eo8_0⟩ := Kd.R_slice HO8_0.out; subst eo8_0; replace HB := zM (ag HB.out hb); clear hb)
    | (have hst_ : Aside0 (Below w.heap.size w w22) := HB; clear hst_; go_at_call 8; refine (iv k2 _ _ l1 l1 _ ?side1 ?side2 H2.out).mono ?_; (case side1 => exact zC (Kd.C_below HR1.out HB.out)); (case side2 => exact HC1.out); rintro e w23 ⟨v9_0, rfl, ho0, hb⟩; replace HO2_0 := aN HO2_0 hb; replace HO5_0 := aN HO5_0 hb; replace HO8_0 := aN HO8_0 hb; have HS23 := zM hb.size; have HO9_0 := uR HB.out (by first | exact ho0 | exact Kd.R_mono ho0 (fun _ _ => trivial) | exact Kd.R_mono ho0 (fun _ hk_ => hk_.1)); clear ho0; obtain ⟨Ao9_0, co9_0, eo9_0⟩ := Kd.R_slice HO9_0.out; subst eo9_0; replace HB := zM (ag HB.out hb); clear hb)
    | (have hst_ : Aside0 (Below w.heap.size w w23) := HB; clear hst_; go_at_call 9; refine (ma k4 a0_0 _ _ l0_1 _ _ l1 q0 q1 _ ?side1 ?side2 ?side3 ?side4 H4.out).mono ?_; (case side1 => exact zC (Kd.R_reads' HO8_0.out).2.2); (case side2 => exact (Kd.R_reads' HO8_0.out).2.1); (case side3 => exact zC (Kd.R_reads' HO9_0.out).2.2); (case side4 => exact (Kd.R_reads' HO9_0.out).2.1); clear HO8_0; clear HO9_0; rintro e w24 ⟨v10_0, rfl, ho0, hb⟩; replace HO2_0 := aN HO2_0 hb; replace HO5_0 := aN HO5_0 hb; have HS24 := zM hb.size; have HO10_0 := uR HB.out (by first | exact ho0 | exact Kd.R_mono ho0 (fun _ _ => trivial) | exact Kd.R_mono ho0 (fun _ hk_ => hk_.1)); clear ho0; obtain ⟨Ao10_0, co10_0, eo10_0⟩ := Kd.R_slice HO10_0.out; subst eo10_0; replace HB := zM (ag HB.out hb); clear hb)
    | (have hst_ : Aside0 (Below w.heap.size w w24) := HB; clear hst_; go_at_call 10; refine (iB k5 _ _ q0 _ _ q0 true _ ?side1 ?side2 ?side3 ?side4 H5.out).mono ?_; (case side1 => exact zC (Kd.R_reads' HO10_0.out).2.2); (case side2 => exact (Kd.R_reads' HO10_0.out).2.1); (case side3 => exact zC (Kd.R_reads' HO2_0.out).2.2); (case side4 => exact (Kd.R_reads' HO2_0.out).2.1); clear HO2_0; clear HO10_0; rintro e w25 ⟨rfl, hb0⟩; have hb := hb0.below; clear hb0; replace HO5_0 := aN HO5_0 hb; have HS25 := zM hb.size; replace HB := zM (ag HB.out hb); clear hb)
    | (have hst_ : Aside0 (Below w.heap.size w w25) := HB; clear hst_; go_at_call 14; refine km (args' := #[.slice Ao5_0 mk2_0.length co5_0, .int .i64 1]) (by rw [hl5_0.out]) ?_; refine (lL k11 _ _ mk2_0 1 kk2 _ ?side1 ?side2 H11.out).mono ?_; (case side1 => exact zC (Kd.R_reads' HO5_0.out).2.2); (case side2 => exact (Kd.R_reads' HO5_0.out).2.1); clear HO5_0; rintro e w26 ⟨rfl, hb0⟩; have hb := hb0.below; clear hb0; have HS26 := zM hb.size; replace HB := zM (ag HB.out hb); clear hb))
  go_ret
  exact ⟨rfl, HB.out⟩
end Go.Proofs.YtjgcehldepfaaaaGreat.P
namespace Go.Proofs.YtjgcehldepfaaaaGreat.P
open Go.RowKit YtjgcehldepfaaaaGreatW.PrintWords Go.Proofs.YtjgcehldepfaaaaGreatW.PrintLast Go.Proofs.YtjgcehldepfaaaaGreatW.PrintMore
set_option linter.unusedVariables false
set_option linter.unusedSimpArgs false

abbrev ch := S63
def bO (n : Nat) (f : Int → List Int) : List (List Int) := (List.range n).map fun (i : Nat) => f i
theorem fF (n : Nat) (f : Int → List Int) : (bO n f).length = n := by simp [bO]
theorem ot {n : Nat} {f g : Int → List Int} (h : ∀ i : Nat, i < n → f i = g i) : bO n f = bO n g := by
  unfold bO
  exact List.map_congr_left fun i hi => h i (List.mem_range.1 hi)
theorem jm {n : Nat} (f : Int → List Int) (i : Nat) (h : i < n) (h' : i < (bO n f).length) : (bO n f)[i] = f i := by simp [bO]
theorem gv {n : Nat} (f : Int → List Int) {a : Int} (h0 : 0 ≤ a) (h1 : a < n) : al (bO n f) a = f a := by
  obtain ⟨i, rfl⟩ := Int.eq_ofNat_of_zero_le h0
  have hi : i < n := by omega
  unfold al
  rw [Int.toNat_natCast, List.getD_eq_getElem?_getD, List.getElem?_eq_getElem (by rw [fF]; exact hi), Option.getD_some, jm f i hi]
theorem kP {n : Nat} (f : Int → List Int) {a : Int} (h0 : 0 ≤ a) (h1 : a < n) (x : List Int) : (bO n f).set a.toNat x = bO n (fun i => if i = a then x else f i) := by
  obtain ⟨i, rfl⟩ := Int.eq_ofNat_of_zero_le h0
  refine List.ext_getElem (by rw [List.length_set, fF, fF]) fun j hj hj' => ?_
  have hjn : j < n := by rw [fF] at hj'; exact hj'
  rw [jm _ j hjn]
  simp only [Int.toNat_natCast, List.getElem_set]
  by_cases h : i = j
  · subst h; rw [if_pos rfl, if_pos rfl]
  · rw [if_neg h, if_neg (by omega), jm _ j hjn]
theorem oq (n : Nat) : List.replicate n ([] : List Int) = bO n (fun _ => []) := by
  unfold bO
  rw [List.map_const', List.length_range]
def dz (i : Int) (p : ch) : Option Int := if p.f0 = i then some p.f1 else if p.f1 = i then some p.f0 else none
def bY (e : List ch) (i : Int) : List Int := e.filterMap (dz i)
theorem si {α : Type} (f : ch → Option α) (e : List ch) (m : Nat) (hm : m < e.length) : (e.take (m + 1)).filterMap f = (e.take m).filterMap f ++ (f e[m]).toList := by
  rw [List.take_add_one, List.getElem?_eq_getElem hm, List.filterMap_append]
  cases h : f e[m] <;> simp [h]
theorem jO {α : Type} (f : ch → Option α) (e : List ch) (m : Nat) (he : e.length ≤ 1048576) : ((e.take m).filterMap f).length ≤ 1048576 := by
  have h1 := List.length_filterMap_le f (e.take m)
  have h2 := List.length_take_le m e
  have h3 : (e.take m).length ≤ e.length := by rw [List.length_take]; omega
  omega
theorem td {a b c : ch} (h : bF a b = true) (k : bF b c = true) : bF a c = true := by
  unfold bF at *
  simp only [Bool.or_eq_true, Bool.and_eq_true, decide_eq_true_eq] at *
  omega
theorem rk (n : Int) (l : List ch) : ∀ p, bM n p l = true → l.Pairwise (fun a b => bF a b = true) ∧ (∀ q, p = some q → ∀ s ∈ l, bF q s = true) := by
  induction l with
  | nil => intro p h; exact ⟨.nil, fun q _ s hs => by cases hs⟩
  | cons x t ih =>
    intro p h
    simp only [bM, Bool.and_eq_true, decide_eq_true_eq] at h
    obtain ⟨_, h4, h5⟩ := h
    obtain ⟨h1, h2⟩ := ih _ h5
    refine ⟨List.pairwise_cons.2 ⟨fun s hs => h2 x rfl s hs, h1⟩, fun q hq s hs => ?_⟩
    subst hq
    have hx : bF q x = true := h4
    rcases List.mem_cons.1 hs with rfl | hs
    · exact hx
    · exact td hx (h2 x rfl s hs)
theorem oy (i : Int) (e : List ch) (hl : ∀ p ∈ e, p.f0 < p.f1) (hp : e.Pairwise (fun a b => bF a b = true)) : (bY e i).Pairwise (· < ·) := by
  have hp2 : e.Pairwise (fun a b => bF a b = true ∧ a.f0 < a.f1 ∧ b.f0 < b.f1) := by
    refine List.Pairwise.imp_of_mem (fun {a b} ha hb h => ⟨h, hl a ha, hl b hb⟩) hp
  refine List.Pairwise.filterMap _ (fun a b h x hx y hy => ?_) hp2
  obtain ⟨h, ha, hb⟩ := h
  unfold bF at h
  simp only [Bool.or_eq_true, Bool.and_eq_true, decide_eq_true_eq] at h
  unfold dz at hx hy
  by_cases c0 : a.f0 = i
  · rw [if_pos c0] at hx
    by_cases d0 : b.f0 = i
    · rw [if_pos d0] at hy; simp at hx hy; omega
    · rw [if_neg d0] at hy
      by_cases d1 : b.f1 = i
      · rw [if_pos d1] at hy; simp at hx hy; omega
      · rw [if_neg d1] at hy; cases hy
  · rw [if_neg c0] at hx
    by_cases c1 : a.f1 = i
    · rw [if_pos c1] at hx
      by_cases d0 : b.f0 = i
      · rw [if_pos d0] at hy; simp at hx hy; omega
      · rw [if_neg d0] at hy
        by_cases d1 : b.f1 = i
        · rw [if_pos d1] at hy; simp at hx hy; omega
        · rw [if_neg d1] at hy; cases hy
    · rw [if_neg c1] at hx; cases hx
section
variable {l : List (List Int)} {e : List ch} (he : e.length ≤ 1048576) (hg : ∀ p ∈ e, 0 ≤ p.f0 ∧ p.f0 < p.f1 ∧ p.f1 < (l.length : Int))
include he hg
theorem oA (d : Nat) : ∀ (m : Nat), e.length - m = d → m ≤ e.length → Ev (fun k => b9 k (bO l.length (bY (e.take m))) e (e.length : Int) (m : Int)) (bO l.length (bY e)) := by
  induction d with
  | zero =>
    intro m h0 h1
    refine Ev.step (fun k => by rw [b9]) (Ev.neg (by omega) ?_)
    rw [List.take_of_length_le (by omega)]
    exact Ev.now _
  | succ d ih =>
    intro m h0 h1
    have hm : m < e.length := by omega
    have hp := hg e[m] (List.getElem_mem hm)
    have ihm := ih (m + 1) (by omega) (by omega)
    rw [← aH hm (by omega)] at ihm
    refine Ev.step (fun k => by rw [b9]) (Ev.pos (by omega) (Ev.pos (by omega) (Ev.pos (by omega) ?_)))
    rw [d4 e m hm, fF, gv _ hp.1 (by omega), kP _ hp.1 (by omega)]
    refine Ev.pos hp.1 (Ev.pos (by omega) (Ev.pos (by have := jO (dz e[m].f0) e m he; unfold bY; omega) (Ev.bindo rfl ?_)))
    rw [gv _ (by omega) hp.2.2, if_neg (by omega), kP _ (by omega) hp.2.2]
    refine Ev.pos (by omega) (Ev.pos (by omega) (Ev.pos (by have := jO (dz e[m].f1) e m he; unfold bY; omega) ?_))
    rw [ot (g := bY (e.take (m + 1))) (fun i hi => ?_)]
    · exact ihm
    · unfold bY
      rw [si (dz i) e m hm]
      by_cases c1 : (i : Int) = e[m].f1
      · rw [if_pos c1, c1]
        unfold dz
        rw [if_neg (by omega), if_pos rfl]
        rfl
      · rw [if_neg c1]
        by_cases c0 : (i : Int) = e[m].f0
        · rw [if_pos c0, c0]
          unfold dz
          rw [if_pos rfl]
          rfl
        · rw [if_neg c0]
          have : dz i e[m] = none := by unfold dz; rw [if_neg (by omega), if_neg (by omega)]
          rw [this]
          simp
end
theorem nV {l : List Int} (h : l.Pairwise (· < ·)) : cz l = l := by
  unfold cz
  exact List.mergeSort_of_pairwise (h.imp fun hab => by simp; omega)
theorem nS (z : List (List Int)) (h : ∀ s ∈ z, s.Pairwise (· < ·) ∧ s.length < 4611686018427387904) : dh z = some z := by
  induction z with
  | nil => rfl
  | cons s t ih =>
    have hs := h s (.head _)
    rw [dh, show dZ s = some s from by unfold dZ; rw [if_pos hs.2, nV hs.1], Option.bind_some, ih (fun q hq => h q (.tail _ hq)), Option.bind_some]
section
variable (l : List (List Int)) (e : List ch) (hm : gz l e) (hg : bM (l.length : Int) none e = true)
include hm hg
/-- The rows of a space. -/
def cB (l : List (List Int)) (e : List ch) : List (List Int) := bO l.length (bY e)
theorem oB : Ev (fun k => eV k l e) (cB l e) := by
  have ha := jM (l.length : Int) e none hg
  have hp := (rk (l.length : Int) e none hg).1
  have hl := oA (l := l) hm.2.2 ha (e.length - 0) 0 rfl (Nat.zero_le _)
  unfold eV jE
  rw [show (fun k => ((if 0 ≤ (l.length : Int) then (if ((l.length : Int) : Int).toNat ≤ 11728124029610 then (b9 k (List.replicate ((l.length : Int) : Int).toNat []) e (e.length : Int) 0) else (none)) else (none)).bind dh)) = fun k => ((b9 k (List.replicate ((l.length : Int) : Int).toNat []) e (e.length : Int) 0).bind dh) from funext fun k => by rw [if_pos (by omega), if_pos (by have := hm.1; omega)]]
  rw [Int.toNat_natCast, oq]
  have e0 : bY (e.take 0) = fun _ => [] := funext fun i => by simp [bY]
  rw [e0] at hl
  refine Ev.bind hl (Ev.some ?_)
  refine nS _ fun s hs => ?_
  unfold cB bO at *
  obtain ⟨i, _, rfl⟩ := List.mem_map.1 hs
  refine ⟨oy _ e (fun p hp => (ha p hp).2.1) hp, ?_⟩
  have := jO (dz i) e e.length hm.2.2
  rw [List.take_length] at this
  unfold bY
  omega
end
theorem jq (l : List (List Int)) (e : List ch) : (cB l e).length = l.length := fF _ _
theorem oz (e : List ch) (i : Int) : (bY e i).length ≤ e.length := List.length_filterMap_le _ _
end Go.Proofs.YtjgcehldepfaaaaGreat.P
