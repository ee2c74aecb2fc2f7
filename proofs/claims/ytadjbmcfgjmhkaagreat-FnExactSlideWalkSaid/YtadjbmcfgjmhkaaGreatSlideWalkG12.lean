import Derived.Test.YtadjbmcfgjmhkaaGreatSlideWalkG10
import Derived.Test.YtadjbmcfgjmhkaaGreatSlideWalkG11
namespace Go.Proofs.YtadjbmcfgjmhkaaGreat.P
open Go.RowKit YtadjbmcfgjmhkaaGreatW.PrintWords YtadjbmcfgjmhkaaGreatW.PrintLast YtadjbmcfgjmhkaaGreatW.PrintMore
attribute [local go_sem] aX aT aU aM aV aN aW aQ
set_option linter.unusedVariables false
set_option linter.unusedSimpArgs false
mutual
def cW : Nat → Int → Int → List (List Int) → List Int → List Int → Option (List Int)
 | 0, _, _, _, _, _ => none
 | k + 1, x1, x2, x7, x8, x9 => if x1 = x2 then (some x9) else (dX k x1 x2 x7 x8 x9 0)
def dX : Nat → Int → Int → List (List Int) → List Int → List Int → Int → Option (List Int)
 | 0, _, _, _, _, _, _ => none
 | k + 1, x1, x2, x7, x8, x9, x10 => if 0 ≤ x1 then (if x1 < (x7.length : Int) then (if 0 ≤ x10 then (if x10 < ((af x7 x1).length : Int) then (if 0 ≤ (rd (af x7 x1) x10) then (if (rd (af x7 x1) x10) < (x8.length : Int) then (if x1 < (x8.length : Int) then (if (rd x8 (rd (af x7 x1) x10)) = (wrap64 ((rd x8 x1) - 1)) then (if x9.length < 17592186044416 then (cW k (rd (af x7 x1) x10) x2 x7 x8 (x9 ++ [rd (af x7 x1) x10])) else (none)) else (dX k x1 x2 x7 x8 x9 (wrap64 (x10 + 1)))) else (none)) else (none)) else (none)) else (none)) else (none)) else (none)) else (none)
end
def fb (k : Nat) (l0_0 : List (List Int)) (l0_1 : List (S69)) (a1 : Int) (a2 : Int) : Option (List Int) := (f5 k l0_0 l0_1).bind fun t365 => ((fZ k t365 a2).bind fun t368 => (if 0 ≤ a1 then (if a1 < (t368.length : Int) then (if (rd t368 a1) < 0 then (some (([] : List Int))) else (cW k a1 a2 t365 t368 (([a1] : List Int)))) else (none)) else (none)))
set_option maxHeartbeats 8000000 in
set_option maxRecDepth 100000 in
theorem nQ (k : Nat) (A0_0 : Option Addr) (c0_0 : Nat) (l0_0 : List (List Int)) (A0_1 : Option Addr) (c0_1 : Nat) (l0_1 : List (S69)) (a1 : Int) (a2 : Int) (r : List Int) (w : World) (hr0_0 : Kd.C (Kd.slice 3 (Kd.int .i64)) w A0_0 l0_0.length l0_0) (hc0_0 : l0_0.length ≤ c0_0) (hr0_1 : Kd.C k69 w A0_1 l0_1.length l0_1) (hc0_1 : l0_1.length ≤ c0_1) (h : fb k l0_0 l0_1 a1 a2 = some r) :
 Calls Tryz.prog 53 #[.agg #[.slice A0_0 l0_0.length c0_0, .slice A0_1 l0_1.length c0_1], .int .i64 a1, .int .i64 a2] w fun e w' => ∃ v0_ : Value, e = .returned (v0_) ∧ Kd.R (Kd.int .i64) 3 w' w.heap.size (fun _ => True) v0_ r ∧ Below w.heap.size w w' := by
 have hu52 := Tryz.underlying52
 have HR0_0 := Aside0.mk hr0_0
 have HC0_0 := Aside0.mk hc0_0
 clear hr0_0 hc0_0
 have HR0_1 := Aside0.mk hr0_1
 have HC0_1 := Aside0.mk hc0_1
 clear hr0_1 hc0_1
 have HB := zM (Below.refl w.heap.size w)
 have H := h
 unfold fb at H
 clear h
 replace H := ax H
 obtain ⟨t365, A40, H⟩ := H
 have A4 := Aside0.mk A40
 clear A40
 replace H := ax H
 obtain ⟨t368, A50, H⟩ := H
 have A5 := Aside0.mk A50
 clear A50
 by_cases c6 : 0 ≤ a1
 case neg => rw [if_neg c6] at H; simp at H
 rw [if_pos c6] at H
 have c6b0 := ag c6
 clear c6
 by_cases c7 : a1 < (t368.length : Int)
 case neg => rw [if_neg c7] at H; simp at H
 rw [if_pos c7] at H
 have c7b0 := ag c7
 clear c7
 by_cases c8 : (rd t368 a1) < 0
 · rw [if_pos c8] at H
   have c8b0 := ag c8
   clear c8
   obtain ⟨y372, hy372⟩ : ∃ y_ : List Int, y_ = (([] : List Int)) := ⟨_, rfl⟩
   replace H : (some y372) = some r := by first | (rw [hy372]; with_reducible exact H) | (have H2_ := (Option.bind_some _ _).symm.trans H; rw [hy372]; with_reducible exact H2_) | (have H2_ := (Option.bind_some _ _).symm.trans H; with_reducible exact H2_) | with_reducible exact H | (rw [hy372]; exact H) | exact H
   have Ny372 := Aside0.mk hy372
   clear hy372
   obtain rfl := ao H
   go_enter Tryz.func53, Tryz.ntmps53
   go_wp2_with (first | ((with_reducible refine ap (N := 3) rfl ?_); refine zb (w := w) 3 #[.slice A0_0 l0_0.length c0_0, .slice A0_1 l0_1.length c0_1] 52 zB ?_; clear HB; intro gb364 w9 HB BK364 GW364; have GE364 := GW364; have hcz10_0 := zy BK364 0; have hcz10_1 := zy BK364 1; have hfz10_0 := ae BK364.out 0; have hfz10_1 := ae BK364.out 1) | (go_at_call 43; (with_reducible refine (ff k _ _ l0_0 _ _ l0_1 t365 _ ?side1 ?side2 ?side3 ?side4 A4.out).mono ?_); (case side1 => exact zC (Kd.C_below HR0_0.out HB.out)); (case side2 => exact HC0_0.out); (case side3 => exact zC (Kd.C_below HR0_1.out HB.out)); (case side4 => exact HC0_1.out); rintro e w11 ⟨v366, rfl, ho0, hb⟩; have HO367 := zM (Kd.S_lower ho0 (ai zB)); replace BK364 := zJ BK364 hb; replace HB := zM (ah zB hb); (try clear hb); (try clear ho0); obtain ⟨Ao12, co12, eo12⟩ := Kd.S_slice HO367.out; subst eo12) | (go_at_call 71; (with_reducible refine (fc k _ _ t365 a2 t368 _ ?side1 ?side2 A5.out).mono ?_); (case side1 => exact zC (Kd.S_reads' HO367.out).2.2); (case side2 => exact (Kd.S_reads' HO367.out).2.1); rintro e w13 ⟨v369, rfl, ho0, hb⟩; replace HO367 := zM (Kd.S_elder' (by (with_reducible repeat (first | apply Kd.S_alloc | apply Kd.S_drewN | apply Kd.S_drew)); exact HO367.out) (Kd.R_base ho0) hb); have HO370 := zM (Kd.R_lower ho0 (ai zB)); replace BK364 := zJ BK364 hb; replace HB := zM (ah zB hb); (try clear hb); (try clear ho0); obtain ⟨Ao14, co14, eo14⟩ := Kd.R_slice HO370.out; subst eo14; have p371 : 0 ≤ (a1 : Int) := ac zA; have q371 : a1 < (t368.length : Int) := ac zA; obtain ⟨ad371, e371, hx371_0⟩ := Kd.at_int (Kd.R_reads' HO370.out).2.2 a1 p371 q371; cases e371; replace p371 := eq_true p371; replace q371 := eq_true q371) | ((with_reducible refine ap (N := 21) rfl ?_); refine Kd.R_lit (Kd.int .i64) _ 3 ?hg (N := 21) ?hd (xs := ([] : List Int)) (inner := []) (ok := fun _ => True) (okp := fun _ => True) ?hr ?hp (fun _ hk => hk) trivial (Below.refl _ _) (au _) (by simp) ?_; (case hd => rfl); (case hg => rfl); (case hr => first | (go_simp; done) | (go_simp; rfl)); (case hp => exact (Reps.none _ _)); intro v373 w15 ho16 hb hg_ hnew_; clear hg_ hnew_; (first | rw [← Ny372.out] at ho16 | (simp only [Int.reduceToNat] at ho16; rw [← Ny372.out] at ho16)); replace HO367 := zM (Kd.S_elder' (by (with_reducible repeat (first | apply Kd.S_alloc | apply Kd.S_drewN | apply Kd.S_drew)); exact HO367.out) (Kd.R_base ho16) hb); have HO374 := zM (Kd.R_lower (Kd.R_new' ho16 (Kd.R_lt (zR HO370.out))) (ai zB)); replace HO370 := zM (Kd.R_elder' (zR HO370.out) (Kd.R_base ho16) hb); replace BK364 := zJ BK364 hb; replace HB := zM (ah zB hb); clear hb ho16))
   repeat (go_quiet (first | ((with_reducible refine ap (N := 3) rfl ?_); refine zb (w := w) 3 #[.slice A0_0 l0_0.length c0_0, .slice A0_1 l0_1.length c0_1] 52 zB ?_; clear HB; intro gb364 w9 HB BK364 GW364; have GE364 := GW364; have hcz10_0 := zy BK364 0; have hcz10_1 := zy BK364 1; have hfz10_0 := ae BK364.out 0; have hfz10_1 := ae BK364.out 1) | (go_at_call 43; (with_reducible refine (ff k _ _ l0_0 _ _ l0_1 t365 _ ?side1 ?side2 ?side3 ?side4 A4.out).mono ?_); (case side1 => exact zC (Kd.C_below HR0_0.out HB.out)); (case side2 => exact HC0_0.out); (case side3 => exact zC (Kd.C_below HR0_1.out HB.out)); (case side4 => exact HC0_1.out); rintro e w11 ⟨v366, rfl, ho0, hb⟩; have HO367 := zM (Kd.S_lower ho0 (ai zB)); replace BK364 := zJ BK364 hb; replace HB := zM (ah zB hb); (try clear hb); (try clear ho0); obtain ⟨Ao12, co12, eo12⟩ := Kd.S_slice HO367.out; subst eo12) | (go_at_call 71; (with_reducible refine (fc k _ _ t365 a2 t368 _ ?side1 ?side2 A5.out).mono ?_); (case side1 => exact zC (Kd.S_reads' HO367.out).2.2); (case side2 => exact (Kd.S_reads' HO367.out).2.1); rintro e w13 ⟨v369, rfl, ho0, hb⟩; replace HO367 := zM (Kd.S_elder' (by (with_reducible repeat (first | apply Kd.S_alloc | apply Kd.S_drewN | apply Kd.S_drew)); exact HO367.out) (Kd.R_base ho0) hb); have HO370 := zM (Kd.R_lower ho0 (ai zB)); replace BK364 := zJ BK364 hb; replace HB := zM (ah zB hb); (try clear hb); (try clear ho0); obtain ⟨Ao14, co14, eo14⟩ := Kd.R_slice HO370.out; subst eo14; have p371 : 0 ≤ (a1 : Int) := ac zA; have q371 : a1 < (t368.length : Int) := ac zA; obtain ⟨ad371, e371, hx371_0⟩ := Kd.at_int (Kd.R_reads' HO370.out).2.2 a1 p371 q371; cases e371; replace p371 := eq_true p371; replace q371 := eq_true q371) | ((with_reducible refine ap (N := 21) rfl ?_); refine Kd.R_lit (Kd.int .i64) _ 3 ?hg (N := 21) ?hd (xs := ([] : List Int)) (inner := []) (ok := fun _ => True) (okp := fun _ => True) ?hr ?hp (fun _ hk => hk) trivial (Below.refl _ _) (au _) (by simp) ?_; (case hd => rfl); (case hg => rfl); (case hr => first | (go_simp; done) | (go_simp; rfl)); (case hp => exact (Reps.none _ _)); intro v373 w15 ho16 hb hg_ hnew_; clear hg_ hnew_; (first | rw [← Ny372.out] at ho16 | (simp only [Int.reduceToNat] at ho16; rw [← Ny372.out] at ho16)); replace HO367 := zM (Kd.S_elder' (by (with_reducible repeat (first | apply Kd.S_alloc | apply Kd.S_drewN | apply Kd.S_drew)); exact HO367.out) (Kd.R_base ho16) hb); have HO374 := zM (Kd.R_lower (Kd.R_new' ho16 (Kd.R_lt (zR HO370.out))) (ai zB)); replace HO370 := zM (Kd.R_elder' (zR HO370.out) (Kd.R_base ho16) hb); replace BK364 := zJ BK364 hb; replace HB := zM (ah zB hb); clear hb ho16)); try go_wp2_with (first | ((with_reducible refine ap (N := 3) rfl ?_); refine zb (w := w) 3 #[.slice A0_0 l0_0.length c0_0, .slice A0_1 l0_1.length c0_1] 52 zB ?_; clear HB; intro gb364 w9 HB BK364 GW364; have GE364 := GW364; have hcz10_0 := zy BK364 0; have hcz10_1 := zy BK364 1; have hfz10_0 := ae BK364.out 0; have hfz10_1 := ae BK364.out 1) | (go_at_call 43; (with_reducible refine (ff k _ _ l0_0 _ _ l0_1 t365 _ ?side1 ?side2 ?side3 ?side4 A4.out).mono ?_); (case side1 => exact zC (Kd.C_below HR0_0.out HB.out)); (case side2 => exact HC0_0.out); (case side3 => exact zC (Kd.C_below HR0_1.out HB.out)); (case side4 => exact HC0_1.out); rintro e w11 ⟨v366, rfl, ho0, hb⟩; have HO367 := zM (Kd.S_lower ho0 (ai zB)); replace BK364 := zJ BK364 hb; replace HB := zM (ah zB hb); (try clear hb); (try clear ho0); obtain ⟨Ao12, co12, eo12⟩ := Kd.S_slice HO367.out; subst eo12) | (go_at_call 71; (with_reducible refine (fc k _ _ t365 a2 t368 _ ?side1 ?side2 A5.out).mono ?_); (case side1 => exact zC (Kd.S_reads' HO367.out).2.2); (case side2 => exact (Kd.S_reads' HO367.out).2.1); rintro e w13 ⟨v369, rfl, ho0, hb⟩; replace HO367 := zM (Kd.S_elder' (by (with_reducible repeat (first | apply Kd.S_alloc | apply Kd.S_drewN | apply Kd.S_drew)); exact HO367.out) (Kd.R_base ho0) hb); have HO370 := zM (Kd.R_lower ho0 (ai zB)); replace BK364 := zJ BK364 hb; replace HB := zM (ah zB hb); (try clear hb); (try clear ho0); obtain ⟨Ao14, co14, eo14⟩ := Kd.R_slice HO370.out; subst eo14; have p371 : 0 ≤ (a1 : Int) := ac zA; have q371 : a1 < (t368.length : Int) := ac zA; obtain ⟨ad371, e371, hx371_0⟩ := Kd.at_int (Kd.R_reads' HO370.out).2.2 a1 p371 q371; cases e371; replace p371 := eq_true p371; replace q371 := eq_true q371) | ((with_reducible refine ap (N := 21) rfl ?_); refine Kd.R_lit (Kd.int .i64) _ 3 ?hg (N := 21) ?hd (xs := ([] : List Int)) (inner := []) (ok := fun _ => True) (okp := fun _ => True) ?hr ?hp (fun _ hk => hk) trivial (Below.refl _ _) (au _) (by simp) ?_; (case hd => rfl); (case hg => rfl); (case hr => first | (go_simp; done) | (go_simp; rfl)); (case hp => exact (Reps.none _ _)); intro v373 w15 ho16 hb hg_ hnew_; clear hg_ hnew_; (first | rw [← Ny372.out] at ho16 | (simp only [Int.reduceToNat] at ho16; rw [← Ny372.out] at ho16)); replace HO367 := zM (Kd.S_elder' (by (with_reducible repeat (first | apply Kd.S_alloc | apply Kd.S_drewN | apply Kd.S_drew)); exact HO367.out) (Kd.R_base ho16) hb); have HO374 := zM (Kd.R_lower (Kd.R_new' ho16 (Kd.R_lt (zR HO370.out))) (ai zB)); replace HO370 := zM (Kd.R_elder' (zR HO370.out) (Kd.R_base ho16) hb); replace BK364 := zJ BK364 hb; replace HB := zM (ah zB hb); clear hb ho16)))
   go_ret
   exact ⟨_, by first | rfl | (simp [al, ak] <;> rfl) | (simp [*, al, ak] <;> rfl), by (with_reducible repeat (first | apply Kd.R_alloc | apply Kd.R_drewN | apply Kd.R_drew)); exact Kd.R_mono HO374.out (fun _ hk => trivial), zB⟩
 · rw [if_neg c8] at H
   have c8b0 : decide ((rd t368 a1) < 0) = false := ar c8
   clear c8
   obtain ⟨y375, hy375⟩ : ∃ y_ : List Int, y_ = (([a1] : List Int)) := ⟨_, rfl⟩
   replace H : (cW k a1 a2 t365 t368 y375) = some r := by first | (rw [hy375]; with_reducible exact H) | (have H2_ := (Option.bind_some _ _).symm.trans H; rw [hy375]; with_reducible exact H2_) | (have H2_ := (Option.bind_some _ _).symm.trans H; with_reducible exact H2_) | with_reducible exact H | (rw [hy375]; exact H) | exact H
   have Ny375 := Aside0.mk hy375
   clear hy375
   have H' := Aside0.mk H
   clear H
   go_enter Tryz.func53, Tryz.ntmps53
   go_wp2_with (first | ((with_reducible refine ap (N := 3) rfl ?_); refine zb (w := w) 3 #[.slice A0_0 l0_0.length c0_0, .slice A0_1 l0_1.length c0_1] 52 zB ?_; clear HB; intro gb364 w17 HB BK364 GW364; have GE364 := GW364; have hcz18_0 := zy BK364 0; have hcz18_1 := zy BK364 1; have hfz18_0 := ae BK364.out 0; have hfz18_1 := ae BK364.out 1) | (go_at_call 43; (with_reducible refine (ff k _ _ l0_0 _ _ l0_1 t365 _ ?side1 ?side2 ?side3 ?side4 A4.out).mono ?_); (case side1 => exact zC (Kd.C_below HR0_0.out HB.out)); (case side2 => exact HC0_0.out); (case side3 => exact zC (Kd.C_below HR0_1.out HB.out)); (case side4 => exact HC0_1.out); rintro e w19 ⟨v366, rfl, ho0, hb⟩; have HO367 := zM (Kd.S_lower ho0 (ai zB)); replace BK364 := zJ BK364 hb; replace HB := zM (ah zB hb); (try clear hb); (try clear ho0); obtain ⟨Ao20, co20, eo20⟩ := Kd.S_slice HO367.out; subst eo20) | (go_at_call 71; (with_reducible refine (fc k _ _ t365 a2 t368 _ ?side1 ?side2 A5.out).mono ?_); (case side1 => exact zC (Kd.S_reads' HO367.out).2.2); (case side2 => exact (Kd.S_reads' HO367.out).2.1); rintro e w21 ⟨v369, rfl, ho0, hb⟩; replace HO367 := zM (Kd.S_elder' (by (with_reducible repeat (first | apply Kd.S_alloc | apply Kd.S_drewN | apply Kd.S_drew)); exact HO367.out) (Kd.R_base ho0) hb); have HO370 := zM (Kd.R_lower ho0 (ai zB)); replace BK364 := zJ BK364 hb; replace HB := zM (ah zB hb); (try clear hb); (try clear ho0); obtain ⟨Ao22, co22, eo22⟩ := Kd.R_slice HO370.out; subst eo22; have p371 : 0 ≤ (a1 : Int) := ac zA; have q371 : a1 < (t368.length : Int) := ac zA; obtain ⟨ad371, e371, hx371_0⟩ := Kd.at_int (Kd.R_reads' HO370.out).2.2 a1 p371 q371; cases e371; replace p371 := eq_true p371; replace q371 := eq_true q371) | ((with_reducible refine ap (N := 23) rfl ?_); refine Kd.R_lit (Kd.int .i64) _ 3 ?hg (N := 23) ?hd (xs := ([a1] : List Int)) (inner := [.int .i64 a1]) (ok := fun _ => True) (okp := fun _ => True) ?hr ?hp (fun _ hk => hk) trivial (Below.refl _ _) (au _) (by simp) ?_; (case hd => rfl); (case hg => rfl); (case hr => first | (go_simp; done) | (go_simp; rfl)); (case hp => exact (Reps.one (show Kd.M (Kd.int .i64) _ _ _ a1 [.int .i64 a1] from rfl) (Reps.none _ _))); intro v376 w23 ho24 hb hg_ hnew_; clear hg_ hnew_; (first | rw [← Ny375.out] at ho24 | (simp only [Int.reduceToNat] at ho24; rw [← Ny375.out] at ho24)); replace HO367 := zM (Kd.S_elder' (by (with_reducible repeat (first | apply Kd.S_alloc | apply Kd.S_drewN | apply Kd.S_drew)); exact HO367.out) (Kd.R_base ho24) hb); have HO377 := zM (Kd.R_lower (Kd.R_new' ho24 (Kd.R_lt (zR HO370.out))) (ai zB)); replace HO370 := zM (Kd.R_elder' (zR HO370.out) (Kd.R_base ho24) hb); replace BK364 := zJ BK364 hb; replace HB := zM (ah zB hb); clear hb ho24))
   repeat (go_quiet (first | ((with_reducible refine ap (N := 3) rfl ?_); refine zb (w := w) 3 #[.slice A0_0 l0_0.length c0_0, .slice A0_1 l0_1.length c0_1] 52 zB ?_; clear HB; intro gb364 w17 HB BK364 GW364; have GE364 := GW364; have hcz18_0 := zy BK364 0; have hcz18_1 := zy BK364 1; have hfz18_0 := ae BK364.out 0; have hfz18_1 := ae BK364.out 1) | (go_at_call 43; (with_reducible refine (ff k _ _ l0_0 _ _ l0_1 t365 _ ?side1 ?side2 ?side3 ?side4 A4.out).mono ?_); (case side1 => exact zC (Kd.C_below HR0_0.out HB.out)); (case side2 => exact HC0_0.out); (case side3 => exact zC (Kd.C_below HR0_1.out HB.out)); (case side4 => exact HC0_1.out); rintro e w19 ⟨v366, rfl, ho0, hb⟩; have HO367 := zM (Kd.S_lower ho0 (ai zB)); replace BK364 := zJ BK364 hb; replace HB := zM (ah zB hb); (try clear hb); (try clear ho0); obtain ⟨Ao20, co20, eo20⟩ := Kd.S_slice HO367.out; subst eo20) | (go_at_call 71; (with_reducible refine (fc k _ _ t365 a2 t368 _ ?side1 ?side2 A5.out).mono ?_); (case side1 => exact zC (Kd.S_reads' HO367.out).2.2); (case side2 => exact (Kd.S_reads' HO367.out).2.1); rintro e w21 ⟨v369, rfl, ho0, hb⟩; replace HO367 := zM (Kd.S_elder' (by (with_reducible repeat (first | apply Kd.S_alloc | apply Kd.S_drewN | apply Kd.S_drew)); exact HO367.out) (Kd.R_base ho0) hb); have HO370 := zM (Kd.R_lower ho0 (ai zB)); replace BK364 := zJ BK364 hb; replace HB := zM (ah zB hb); (try clear hb); (try clear ho0); obtain ⟨Ao22, co22, eo22⟩ := Kd.R_slice HO370.out; subst eo22; have p371 : 0 ≤ (a1 : Int) := ac zA; have q371 : a1 < (t368.length : Int) := ac zA; obtain ⟨ad371, e371, hx371_0⟩ := Kd.at_int (Kd.R_reads' HO370.out).2.2 a1 p371 q371; cases e371; replace p371 := eq_true p371; replace q371 := eq_true q371) | ((with_reducible refine ap (N := 23) rfl ?_); refine Kd.R_lit (Kd.int .i64) _ 3 ?hg (N := 23) ?hd (xs := ([a1] : List Int)) (inner := [.int .i64 a1]) (ok := fun _ => True) (okp := fun _ => True) ?hr ?hp (fun _ hk => hk) trivial (Below.refl _ _) (au _) (by simp) ?_; (case hd => rfl); (case hg => rfl); (case hr => first | (go_simp; done) | (go_simp; rfl)); (case hp => exact (Reps.one (show Kd.M (Kd.int .i64) _ _ _ a1 [.int .i64 a1] from rfl) (Reps.none _ _))); intro v376 w23 ho24 hb hg_ hnew_; clear hg_ hnew_; (first | rw [← Ny375.out] at ho24 | (simp only [Int.reduceToNat] at ho24; rw [← Ny375.out] at ho24)); replace HO367 := zM (Kd.S_elder' (by (with_reducible repeat (first | apply Kd.S_alloc | apply Kd.S_drewN | apply Kd.S_drew)); exact HO367.out) (Kd.R_base ho24) hb); have HO377 := zM (Kd.R_lower (Kd.R_new' ho24 (Kd.R_lt (zR HO370.out))) (ai zB)); replace HO370 := zM (Kd.R_elder' (zR HO370.out) (Kd.R_base ho24) hb); replace BK364 := zJ BK364 hb; replace HB := zM (ah zB hb); clear hb ho24)); try go_wp2_with (first | ((with_reducible refine ap (N := 3) rfl ?_); refine zb (w := w) 3 #[.slice A0_0 l0_0.length c0_0, .slice A0_1 l0_1.length c0_1] 52 zB ?_; clear HB; intro gb364 w17 HB BK364 GW364; have GE364 := GW364; have hcz18_0 := zy BK364 0; have hcz18_1 := zy BK364 1; have hfz18_0 := ae BK364.out 0; have hfz18_1 := ae BK364.out 1) | (go_at_call 43; (with_reducible refine (ff k _ _ l0_0 _ _ l0_1 t365 _ ?side1 ?side2 ?side3 ?side4 A4.out).mono ?_); (case side1 => exact zC (Kd.C_below HR0_0.out HB.out)); (case side2 => exact HC0_0.out); (case side3 => exact zC (Kd.C_below HR0_1.out HB.out)); (case side4 => exact HC0_1.out); rintro e w19 ⟨v366, rfl, ho0, hb⟩; have HO367 := zM (Kd.S_lower ho0 (ai zB)); replace BK364 := zJ BK364 hb; replace HB := zM (ah zB hb); (try clear hb); (try clear ho0); obtain ⟨Ao20, co20, eo20⟩ := Kd.S_slice HO367.out; subst eo20) | (go_at_call 71; (with_reducible refine (fc k _ _ t365 a2 t368 _ ?side1 ?side2 A5.out).mono ?_); (case side1 => exact zC (Kd.S_reads' HO367.out).2.2); (case side2 => exact (Kd.S_reads' HO367.out).2.1); rintro e w21 ⟨v369, rfl, ho0, hb⟩; replace HO367 := zM (Kd.S_elder' (by (with_reducible repeat (first | apply Kd.S_alloc | apply Kd.S_drewN | apply Kd.S_drew)); exact HO367.out) (Kd.R_base ho0) hb); have HO370 := zM (Kd.R_lower ho0 (ai zB)); replace BK364 := zJ BK364 hb; replace HB := zM (ah zB hb); (try clear hb); (try clear ho0); obtain ⟨Ao22, co22, eo22⟩ := Kd.R_slice HO370.out; subst eo22; have p371 : 0 ≤ (a1 : Int) := ac zA; have q371 : a1 < (t368.length : Int) := ac zA; obtain ⟨ad371, e371, hx371_0⟩ := Kd.at_int (Kd.R_reads' HO370.out).2.2 a1 p371 q371; cases e371; replace p371 := eq_true p371; replace q371 := eq_true q371) | ((with_reducible refine ap (N := 23) rfl ?_); refine Kd.R_lit (Kd.int .i64) _ 3 ?hg (N := 23) ?hd (xs := ([a1] : List Int)) (inner := [.int .i64 a1]) (ok := fun _ => True) (okp := fun _ => True) ?hr ?hp (fun _ hk => hk) trivial (Below.refl _ _) (au _) (by simp) ?_; (case hd => rfl); (case hg => rfl); (case hr => first | (go_simp; done) | (go_simp; rfl)); (case hp => exact (Reps.one (show Kd.M (Kd.int .i64) _ _ _ a1 [.int .i64 a1] from rfl) (Reps.none _ _))); intro v376 w23 ho24 hb hg_ hnew_; clear hg_ hnew_; (first | rw [← Ny375.out] at ho24 | (simp only [Int.reduceToNat] at ho24; rw [← Ny375.out] at ho24)); replace HO367 := zM (Kd.S_elder' (by (with_reducible repeat (first | apply Kd.S_alloc | apply Kd.S_drewN | apply Kd.S_drew)); exact HO367.out) (Kd.R_base ho24) hb); have HO377 := zM (Kd.R_lower (Kd.R_new' ho24 (Kd.R_lt (zR HO370.out))) (ai zB)); replace HO370 := zM (Kd.R_elder' (zR HO370.out) (Kd.R_base ho24) hb); replace BK364 := zJ BK364 hb; replace HB := zM (ah zB hb); clear hb ho24)))
   go_loopg [1, 9] k (fun kq v1 v9 w' => ∃ (x1_1 : Int) (x9_1 : List Int), v1 = .int .i64 x1_1 ∧ Aside0 (cW kq x1_1 a2 t365 t368 x9_1 = some r) ∧ Aside0 (kq ≤ k) ∧ Aside0 (Kd.S (Kd.slice 3 (Kd.int .i64)) 25 w' w.heap.size (fun k_ => some k_ ≠ ((.slice (some ad371) t368.length co22) : Value).ownBlock ∧ some k_ ≠ (v9 : Value).ownBlock) (.slice Ao20 t365.length co20) t365) ∧ Aside0 (Kd.R (Kd.int .i64) 3 w' w.heap.size (fun k_ => some k_ ≠ (v9 : Value).ownBlock) (.slice (some ad371) t368.length co22) t368) ∧ Aside0 (Kd.R (Kd.int .i64) 3 w' w.heap.size (fun k_ => some k_ ≠ ((.slice (some ad371) t368.length co22) : Value).ownBlock) v9 x9_1) ∧ Aside0 (w'.heap[gb364]? = some (.cells #[(.slice A0_0 l0_0.length c0_0), (.slice A0_1 l0_1.length c0_1)] 52 (0, 0))) ∧ Aside0 (Below w.heap.size w w'))
   case atStart => exact ⟨(a1), (y375), (by first | rfl | (simp; done) | (simp [*]; done)), H', ⟨au _⟩, ⟨by (with_reducible repeat (first | apply Kd.S_alloc | apply Kd.S_drewN | apply Kd.S_drew)); exact Kd.S_mono HO367.out (fun _ hk => ⟨hk.1.2, hk.2⟩)⟩, ⟨by (with_reducible repeat (first | apply Kd.R_alloc | apply Kd.R_drewN | apply Kd.R_drew)); exact Kd.R_mono HO370.out (fun _ hk => hk.2)⟩, ⟨by (with_reducible repeat (first | apply Kd.R_alloc | apply Kd.R_drewN | apply Kd.R_drew)); exact Kd.R_mono HO377.out (fun _ hk => hk.2)⟩, ⟨zK BK364.out⟩, ⟨zB⟩⟩
   case round =>
    clear H'
    try clear p2
    try clear p3
    try clear q3
    try clear hx3
    try clear c5
    try clear c6
    try clear c6b0
    try clear c7
    try clear c7b0
    try clear c8
    try clear c8b0
    try clear hcz10_0
    try clear hcz10_1
    try clear hcz18_0
    try clear hcz18_1
    try clear hfz10_0
    try clear hfz10_1
    try clear hfz18_0
    try clear hfz18_1
    try clear hx371_0
    try clear p371
    try clear q371
    obtain ⟨x1_1, x9_1, rfl, HA, HK1, HO_7, HO_8, HO_9, BK364, HB⟩ := hrel
    cases gk with
    | zero => exact absurd HA.out (by simp [cW])
    | succ k1 =>
     have H := HA.out
     clear HA
     simp only [cW] at H
     by_cases c25 : x1_1 = a2
     · rw [if_pos c25] at H
       have c25b0 : (x1_1 == a2) = true := beq_iff_eq.mpr c25
       have c25b1 : (x1_1 != a2) = false := bne_eq_false_iff_eq.mpr c25
       clear c25
       obtain rfl := ao H
       go_wp2
       repeat (go_quiet (fail); try go_wp2)
       go_ret
       exact ⟨_, by first | rfl | (simp [al, ak] <;> rfl) | (simp [*, al, ak] <;> rfl), by (with_reducible repeat (first | apply Kd.R_alloc | apply Kd.R_drewN | apply Kd.R_drew)); exact Kd.R_mono HO_9.out (fun _ hk => trivial), zB⟩
     · rw [if_neg c25] at H
       have c25b0 : (x1_1 == a2) = false := beq_eq_false_iff_ne.mpr c25
       have c25b1 : (x1_1 != a2) = true := bne_iff_ne.mpr c25
       have H' := Aside0.mk H
       clear H
       go_wp2
       repeat (go_quiet (fail); try go_wp2)
       go_loopg [10] k1 (fun kq v10 w' => ∃ (x10_2 : Int), v10 = .int .i64 x10_2 ∧ Aside0 (dX kq x1_1 a2 t365 t368 x9_1 x10_2 = some r) ∧ Aside0 (kq ≤ k1) ∧ Aside0 (Kd.S (Kd.slice 3 (Kd.int .i64)) 25 w' w.heap.size (fun k_ => some k_ ≠ ((.slice (some ad371) t368.length co22) : Value).ownBlock ∧ some k_ ≠ (u9 : Value).ownBlock) (.slice Ao20 t365.length co20) t365) ∧ Aside0 (Kd.R (Kd.int .i64) 3 w' w.heap.size (fun k_ => some k_ ≠ (u9 : Value).ownBlock) (.slice (some ad371) t368.length co22) t368) ∧ Aside0 (Kd.R (Kd.int .i64) 3 w' w.heap.size (fun k_ => some k_ ≠ ((.slice (some ad371) t368.length co22) : Value).ownBlock) u9 x9_1) ∧ Aside0 (w'.heap[gb364]? = some (.cells #[(.slice A0_0 l0_0.length c0_0), (.slice A0_1 l0_1.length c0_1)] 52 (0, 0))) ∧ Aside0 (Below w.heap.size w w'))
       case atStart => exact ⟨(0), (by first | rfl | (simp; done) | (simp [*]; done)), H', ⟨au _⟩, ⟨by (with_reducible repeat (first | apply Kd.S_alloc | apply Kd.S_drewN | apply Kd.S_drew)); exact HO_7.out⟩, ⟨zR HO_8.out⟩, ⟨zR HO_9.out⟩, ⟨zK BK364.out⟩, ⟨zB⟩⟩
       case round =>
        clear H'
        try clear c2
        try clear p2
        try clear p3
        try clear q3
        try clear hx3
        try clear c5
        try clear c6
        try clear c6b0
        try clear c7
        try clear c7b0
        try clear c8
        try clear c8b0
        try clear c25
        try clear c25b0
        try clear c25b1
        try clear hcz10_0
        try clear hcz10_1
        try clear hcz18_0
        try clear hcz18_1
        try clear hfz10_0
        try clear hfz10_1
        try clear hfz18_0
        try clear hfz18_1
        try clear hx371_0
        try clear p2
        try clear p3
        try clear p371
        try clear q3
        try clear q371
        obtain ⟨x10_2, rfl, HA, HK2, HO_7, HO_8, HO_9, BK364, HB⟩ := hrel
        cases gk with
        | zero => exact absurd HA.out (by simp [dX])
        | succ k2 =>
         have H := HA.out
         clear HA
         simp only [dX] at H
         by_cases c26 : 0 ≤ x1_1
         case neg => rw [if_neg c26] at H; simp at H
         rw [if_pos c26] at H
         have c26b0 := ag c26
         clear c26
         by_cases c27 : x1_1 < (t365.length : Int)
         case neg => rw [if_neg c27] at H; simp at H
         rw [if_pos c27] at H
         have c27b0 := ag c27
         clear c27
         by_cases c28 : 0 ≤ x10_2
         case neg => rw [if_neg c28] at H; simp at H
         rw [if_pos c28] at H
         have c28b0 := ag c28
         clear c28
         by_cases c29 : x10_2 < ((af t365 x1_1).length : Int)
         case neg => rw [if_neg c29] at H; simp at H
         rw [if_pos c29] at H
         have c29b0 := ag c29
         clear c29
         by_cases c30 : 0 ≤ (rd (af t365 x1_1) x10_2)
         case neg => rw [if_neg c30] at H; simp at H
         rw [if_pos c30] at H
         have c30b0 := ag c30
         clear c30
         by_cases c31 : (rd (af t365 x1_1) x10_2) < (t368.length : Int)
         case neg => rw [if_neg c31] at H; simp at H
         rw [if_pos c31] at H
         have c31b0 := ag c31
         clear c31
         by_cases c32 : x1_1 < (t368.length : Int)
         case neg => rw [if_neg c32] at H; simp at H
         rw [if_pos c32] at H
         have c32b0 := ag c32
         clear c32
         by_cases c33 : (rd t368 (rd (af t365 x1_1) x10_2)) = (wrap64 ((rd t368 x1_1) - 1))
         · rw [if_pos c33] at H
           have c33b0 : ((rd t368 (rd (af t365 x1_1) x10_2)) == (wrap64 ((rd t368 x1_1) - 1))) = true := beq_iff_eq.mpr c33
           have c33b1 : ((rd t368 (rd (af t365 x1_1) x10_2)) != (wrap64 ((rd t368 x1_1) - 1))) = false := bne_eq_false_iff_eq.mpr c33
           clear c33
           by_cases c34 : x9_1.length < 17592186044416
           case neg => rw [if_neg c34] at H; simp at H
           rw [if_pos c34] at H
           have LMc34 := Aside0.mk c34
           clear c34
           obtain ⟨y384, hy384⟩ : ∃ y_ : List Int, y_ = (x9_1 ++ [rd (af t365 x1_1) x10_2]) := ⟨_, rfl⟩
           replace H : (cW k2 (rd (af t365 x1_1) x10_2) a2 t365 t368 y384) = some r := by first | (rw [hy384]; with_reducible exact H) | (have H2_ := (Option.bind_some _ _).symm.trans H; rw [hy384]; with_reducible exact H2_) | (have H2_ := (Option.bind_some _ _).symm.trans H; with_reducible exact H2_) | with_reducible exact H | (rw [hy384]; exact H) | exact H
           have Ny384 := Aside0.mk hy384
           clear hy384
           have H' := Aside0.mk H
           clear H
           have p378 : 0 ≤ (x1_1 : Int) := ac zA
           have q378 : x1_1 < (t365.length : Int) := ac zA
           obtain ⟨ad378, A378_0, c378_0, e378, hx378_0, hl378_0, hi378_0⟩ := bf (Kd.S_reads' HO_7.out).2.2 x1_1 p378 q378
           cases e378
           obtain ⟨ce378, hce378, hMe378, hcc378⟩ := Kd.S_get HO_7.out [] x1_1 p378 (by first | exact q378 | exact ac zA | (have e_ := (Kd.S_reads' HO_7.out).1; omega))
           obtain ⟨ve378_0, rfl, ge378_0⟩ := hMe378
           have hv378_0 := hcc378 0 _ rfl
           rw [Nat.add_zero, show ((Kd.slice 3 (Kd.int .i64))).sz = 1 from rfl, Nat.mul_one] at hv378_0
           replace hv378_0 := ao (hv378_0.symm.trans hx378_0)
           rw [hv378_0] at ge378_0
           have HL378_0 := zM (show Kd.R (Kd.int .i64) 3 _ _ _ _ (af t365 x1_1) from ge378_0)
           clear hv378_0 ge378_0
           clear hcc378 hce378
           have HR378_0 := Aside0.mk hi378_0
           have HC378_0 := Aside0.mk hl378_0
           clear hi378_0 hl378_0
           replace p378 := eq_true p378
           replace q378 := eq_true q378
           have p379 : 0 ≤ (x10_2 : Int) := ac zA
           have q379 : x10_2 < ((af t365 x1_1).length : Int) := ac zA
           obtain ⟨ad379, e379, hx379_0⟩ := Kd.at_int (by repeat (first | (with_reducible exact HR378_0.out) | (with_reducible refine Kd.C_alloc ?_ _) | (with_reducible refine Kd.C_drewN ?_ _) | (with_reducible refine Kd.C_drew ?_) | exact HR378_0.out)) x10_2 p379 q379
           cases e379
           replace p379 := eq_true p379
           replace q379 := eq_true q379
           have p380 : 0 ≤ ((rd (af t365 x1_1) x10_2) : Int) := ac zA
           have q380 : (rd (af t365 x1_1) x10_2) < (t368.length : Int) := ac zA
           obtain ⟨ad380, e380, hx380_0⟩ := Kd.at_int (Kd.R_reads' HO_8.out).2.2 (rd (af t365 x1_1) x10_2) p380 q380
           obtain rfl : ad371 = ad380 := (by injection e380)
           replace p380 := eq_true p380
           replace q380 := eq_true q380
           have p381 : 0 ≤ (x1_1 : Int) := ac zA
           have q381 : x1_1 < (t368.length : Int) := ac zA
           obtain ⟨ad381, e381, hx381_0⟩ := Kd.at_int (Kd.R_reads' HO_8.out).2.2 x1_1 p381 q381
           obtain rfl : ad371 = ad381 := (by injection e381)
           replace p381 := eq_true p381
           replace q381 := eq_true q381
           have p382 : 0 ≤ (x1_1 : Int) := ac zA
           have q382 : x1_1 < (t365.length : Int) := ac zA
           obtain ⟨ad382, A382_0, c382_0, e382, hx382_0, hl382_0, hi382_0⟩ := bf (Kd.S_reads' HO_7.out).2.2 x1_1 p382 q382
           obtain rfl : ad378 = ad382 := (by injection e382)
           obtain ⟨ce382, hce382, hMe382, hcc382⟩ := Kd.S_get HO_7.out [] x1_1 p382 (by first | exact q382 | exact ac zA | (have e_ := (Kd.S_reads' HO_7.out).1; omega))
           obtain ⟨ve382_0, rfl, ge382_0⟩ := hMe382
           have hv382_0 := hcc382 0 _ rfl
           rw [Nat.add_zero, show ((Kd.slice 3 (Kd.int .i64))).sz = 1 from rfl, Nat.mul_one] at hv382_0
           replace hv382_0 := ao (hv382_0.symm.trans hx382_0)
           rw [hv382_0] at ge382_0
           have HL382_0 := zM (show Kd.R (Kd.int .i64) 3 _ _ _ _ (af t365 x1_1) from ge382_0)
           clear hv382_0 ge382_0
           clear hcc382 hce382
           have HR382_0 := Aside0.mk hi382_0
           have HC382_0 := Aside0.mk hl382_0
           clear hi382_0 hl382_0
           replace p382 := eq_true p382
           replace q382 := eq_true q382
           have ea_ := ao (hx378_0.symm.trans hx382_0)
           injection ea_ with ea_ en_ ec_
           subst ea_
           subst ec_
           clear en_
           have p383 : 0 ≤ (x10_2 : Int) := ac zA
           have q383 : x10_2 < ((af t365 x1_1).length : Int) := ac zA
           obtain ⟨ad383, e383, hx383_0⟩ := Kd.at_int (by repeat (first | (with_reducible exact HR382_0.out) | (with_reducible refine Kd.C_alloc ?_ _) | (with_reducible refine Kd.C_drewN ?_ _) | (with_reducible refine Kd.C_drew ?_) | exact HR382_0.out)) x10_2 p383 q383
           cases e383
           replace p383 := eq_true p383
           replace q383 := eq_true q383
           go_wp2_with (first | ((with_reducible refine br (b := .append) (xs := #[.tmp 52, .tmp 54]) rfl ?_); at_builtin; refine Kd.R_append (Kd.int .i64) (w0 := w) w.heap.size rfl (.tmp 52) (.tmp 54) 25 3 (.int .i64 0) 8 rfl Tryz.underlying25 bq rfl (by decide) (by omega) u9 x9_1 (rd (af t365 x1_1) x10_2) [.int .i64 (rd (af t365 x1_1) x10_2)] (fun k_ => some k_ ≠ (.slice (some ad371) t368.length co22 : Value).ownBlock) (fun _ => False) rfl rfl ?aP (fun _ hk => hk.elim) ?aF ?aO ?aB ?aS ?aL ?_; (case aP => exact rfl); (case aB => exact zB); (case aF => exact (fun k_ hk => Kd.fresh' (Kd.R_lt (zR HO_8.out)) k_ hk)); (case aO => exact (zR HO_9.out)); (case aS => exact (ai zB)); (case aL => have := LMc34.out; omega); intro v385 w35 ho hb hg hat; rw [← Ny384.out] at ho; replace HO_7 := zM (Kd.S_after (ok := (fun k_ => some k_ ≠ (.slice (some ad371) t368.length co22 : Value).ownBlock)) (by (with_reducible repeat (first | apply Kd.S_alloc | apply Kd.S_drewN | apply Kd.S_drew)); exact HO_7.out) hg hat); replace HO_8 := zM (Kd.R_after (ok := (fun _ => True)) (by (with_reducible repeat (first | apply Kd.R_alloc | apply Kd.R_drewN | apply Kd.R_drew)); exact Kd.R_mono HO_8.out (fun _ hk => ⟨trivial, hk⟩)) hg hat); replace BK364 := zM (bc (g := gb364) (o := .cells #[.slice A0_0 l0_0.length c0_0, .slice A0_1 l0_1.length c0_1] 52 (0, 0)) (zK BK364.out) hg (Kd.R_ne HO_9.out BK364.out (by decide))); replace HL378_0 := zM (Kd.R_after (ok := (fun k_ => some k_ ≠ (.slice (some ad378) t365.length co20 : Value).ownBlock ∧ some k_ ≠ (.slice (some ad371) t368.length co22 : Value).ownBlock)) (by (with_reducible repeat (first | apply Kd.R_alloc | apply Kd.R_drewN | apply Kd.R_drew)); exact Kd.R_mono HL378_0.out (fun _ hk => ⟨⟨hk.2, hk.1.1⟩, hk.1.2⟩)) hg hat); replace HL382_0 := zM (Kd.R_after (ok := (fun k_ => some k_ ≠ (.slice (some ad378) t365.length co20 : Value).ownBlock ∧ some k_ ≠ (.slice (some ad371) t368.length co22 : Value).ownBlock)) (by (with_reducible repeat (first | apply Kd.R_alloc | apply Kd.R_drewN | apply Kd.R_drew)); exact Kd.R_mono HL382_0.out (fun _ hk => ⟨⟨hk.2, hk.1.1⟩, hk.1.2⟩)) hg hat); replace HB := zM (hb); have HO386 := zM (ho); clear HO_9; clear ho hb hg hat))
           repeat (go_quiet (first | ((with_reducible refine br (b := .append) (xs := #[.tmp 52, .tmp 54]) rfl ?_); at_builtin; refine Kd.R_append (Kd.int .i64) (w0 := w) w.heap.size rfl (.tmp 52) (.tmp 54) 25 3 (.int .i64 0) 8 rfl Tryz.underlying25 bq rfl (by decide) (by omega) u9 x9_1 (rd (af t365 x1_1) x10_2) [.int .i64 (rd (af t365 x1_1) x10_2)] (fun k_ => some k_ ≠ (.slice (some ad371) t368.length co22 : Value).ownBlock) (fun _ => False) rfl rfl ?aP (fun _ hk => hk.elim) ?aF ?aO ?aB ?aS ?aL ?_; (case aP => exact rfl); (case aB => exact zB); (case aF => exact (fun k_ hk => Kd.fresh' (Kd.R_lt (zR HO_8.out)) k_ hk)); (case aO => exact (zR HO_9.out)); (case aS => exact (ai zB)); (case aL => have := LMc34.out; omega); intro v385 w35 ho hb hg hat; rw [← Ny384.out] at ho; replace HO_7 := zM (Kd.S_after (ok := (fun k_ => some k_ ≠ (.slice (some ad371) t368.length co22 : Value).ownBlock)) (by (with_reducible repeat (first | apply Kd.S_alloc | apply Kd.S_drewN | apply Kd.S_drew)); exact HO_7.out) hg hat); replace HO_8 := zM (Kd.R_after (ok := (fun _ => True)) (by (with_reducible repeat (first | apply Kd.R_alloc | apply Kd.R_drewN | apply Kd.R_drew)); exact Kd.R_mono HO_8.out (fun _ hk => ⟨trivial, hk⟩)) hg hat); replace BK364 := zM (bc (g := gb364) (o := .cells #[.slice A0_0 l0_0.length c0_0, .slice A0_1 l0_1.length c0_1] 52 (0, 0)) (zK BK364.out) hg (Kd.R_ne HO_9.out BK364.out (by decide))); replace HL378_0 := zM (Kd.R_after (ok := (fun k_ => some k_ ≠ (.slice (some ad378) t365.length co20 : Value).ownBlock ∧ some k_ ≠ (.slice (some ad371) t368.length co22 : Value).ownBlock)) (by (with_reducible repeat (first | apply Kd.R_alloc | apply Kd.R_drewN | apply Kd.R_drew)); exact Kd.R_mono HL378_0.out (fun _ hk => ⟨⟨hk.2, hk.1.1⟩, hk.1.2⟩)) hg hat); replace HL382_0 := zM (Kd.R_after (ok := (fun k_ => some k_ ≠ (.slice (some ad378) t365.length co20 : Value).ownBlock ∧ some k_ ≠ (.slice (some ad371) t368.length co22 : Value).ownBlock)) (by (with_reducible repeat (first | apply Kd.R_alloc | apply Kd.R_drewN | apply Kd.R_drew)); exact Kd.R_mono HL382_0.out (fun _ hk => ⟨⟨hk.2, hk.1.1⟩, hk.1.2⟩)) hg hat); replace HB := zM (hb); have HO386 := zM (ho); clear HO_9; clear ho hb hg hat)); try go_wp2_with (first | ((with_reducible refine br (b := .append) (xs := #[.tmp 52, .tmp 54]) rfl ?_); at_builtin; refine Kd.R_append (Kd.int .i64) (w0 := w) w.heap.size rfl (.tmp 52) (.tmp 54) 25 3 (.int .i64 0) 8 rfl Tryz.underlying25 bq rfl (by decide) (by omega) u9 x9_1 (rd (af t365 x1_1) x10_2) [.int .i64 (rd (af t365 x1_1) x10_2)] (fun k_ => some k_ ≠ (.slice (some ad371) t368.length co22 : Value).ownBlock) (fun _ => False) rfl rfl ?aP (fun _ hk => hk.elim) ?aF ?aO ?aB ?aS ?aL ?_; (case aP => exact rfl); (case aB => exact zB); (case aF => exact (fun k_ hk => Kd.fresh' (Kd.R_lt (zR HO_8.out)) k_ hk)); (case aO => exact (zR HO_9.out)); (case aS => exact (ai zB)); (case aL => have := LMc34.out; omega); intro v385 w35 ho hb hg hat; rw [← Ny384.out] at ho; replace HO_7 := zM (Kd.S_after (ok := (fun k_ => some k_ ≠ (.slice (some ad371) t368.length co22 : Value).ownBlock)) (by (with_reducible repeat (first | apply Kd.S_alloc | apply Kd.S_drewN | apply Kd.S_drew)); exact HO_7.out) hg hat); replace HO_8 := zM (Kd.R_after (ok := (fun _ => True)) (by (with_reducible repeat (first | apply Kd.R_alloc | apply Kd.R_drewN | apply Kd.R_drew)); exact Kd.R_mono HO_8.out (fun _ hk => ⟨trivial, hk⟩)) hg hat); replace BK364 := zM (bc (g := gb364) (o := .cells #[.slice A0_0 l0_0.length c0_0, .slice A0_1 l0_1.length c0_1] 52 (0, 0)) (zK BK364.out) hg (Kd.R_ne HO_9.out BK364.out (by decide))); replace HL378_0 := zM (Kd.R_after (ok := (fun k_ => some k_ ≠ (.slice (some ad378) t365.length co20 : Value).ownBlock ∧ some k_ ≠ (.slice (some ad371) t368.length co22 : Value).ownBlock)) (by (with_reducible repeat (first | apply Kd.R_alloc | apply Kd.R_drewN | apply Kd.R_drew)); exact Kd.R_mono HL378_0.out (fun _ hk => ⟨⟨hk.2, hk.1.1⟩, hk.1.2⟩)) hg hat); replace HL382_0 := zM (Kd.R_after (ok := (fun k_ => some k_ ≠ (.slice (some ad378) t365.length co20 : Value).ownBlock ∧ some k_ ≠ (.slice (some ad371) t368.length co22 : Value).ownBlock)) (by (with_reducible repeat (first | apply Kd.R_alloc | apply Kd.R_drewN | apply Kd.R_drew)); exact Kd.R_mono HL382_0.out (fun _ hk => ⟨⟨hk.2, hk.1.1⟩, hk.1.2⟩)) hg hat); replace HB := zM (hb); have HO386 := zM (ho); clear HO_9; clear ho hb hg hat)))
           go_roundg k2
           case measure => have := HK1.out; have := HK2.out; omega
           case rel => exact ⟨(rd (af t365 x1_1) x10_2), (y384), (by first | rfl | (simp; done) | (simp [*]; done)), H', ⟨by have := HK1.out; have := HK2.out; omega⟩, ⟨by (with_reducible repeat (first | apply Kd.S_alloc | apply Kd.S_drewN | apply Kd.S_drew)); exact HO_7.out⟩, ⟨by (with_reducible repeat (first | apply Kd.R_alloc | apply Kd.R_drewN | apply Kd.R_drew)); exact Kd.R_mono HO_8.out (fun _ hk => hk.2)⟩, ⟨zR HO386.out⟩, ⟨zK BK364.out⟩, ⟨zB⟩⟩
         · rw [if_neg c33] at H
           have c33b0 : ((rd t368 (rd (af t365 x1_1) x10_2)) == (wrap64 ((rd t368 x1_1) - 1))) = false := beq_eq_false_iff_ne.mpr c33
           have c33b1 : ((rd t368 (rd (af t365 x1_1) x10_2)) != (wrap64 ((rd t368 x1_1) - 1))) = true := bne_iff_ne.mpr c33
           have H' := Aside0.mk H
           clear H
           have p378 : 0 ≤ (x1_1 : Int) := ac zA
           have q378 : x1_1 < (t365.length : Int) := ac zA
           obtain ⟨ad378, A378_0, c378_0, e378, hx378_0, hl378_0, hi378_0⟩ := bf (Kd.S_reads' HO_7.out).2.2 x1_1 p378 q378
           cases e378
           obtain ⟨ce378, hce378, hMe378, hcc378⟩ := Kd.S_get HO_7.out [] x1_1 p378 (by first | exact q378 | exact ac zA | (have e_ := (Kd.S_reads' HO_7.out).1; omega))
           obtain ⟨ve378_0, rfl, ge378_0⟩ := hMe378
           have hv378_0 := hcc378 0 _ rfl
           rw [Nat.add_zero, show ((Kd.slice 3 (Kd.int .i64))).sz = 1 from rfl, Nat.mul_one] at hv378_0
           replace hv378_0 := ao (hv378_0.symm.trans hx378_0)
           rw [hv378_0] at ge378_0
           have HL378_0 := zM (show Kd.R (Kd.int .i64) 3 _ _ _ _ (af t365 x1_1) from ge378_0)
           clear hv378_0 ge378_0
           clear hcc378 hce378
           have HR378_0 := Aside0.mk hi378_0
           have HC378_0 := Aside0.mk hl378_0
           clear hi378_0 hl378_0
           replace p378 := eq_true p378
           replace q378 := eq_true q378
           have p379 : 0 ≤ (x10_2 : Int) := ac zA
           have q379 : x10_2 < ((af t365 x1_1).length : Int) := ac zA
           obtain ⟨ad379, e379, hx379_0⟩ := Kd.at_int (by repeat (first | (with_reducible exact HR378_0.out) | (with_reducible refine Kd.C_alloc ?_ _) | (with_reducible refine Kd.C_drewN ?_ _) | (with_reducible refine Kd.C_drew ?_) | exact HR378_0.out)) x10_2 p379 q379
           cases e379
           replace p379 := eq_true p379
           replace q379 := eq_true q379
           have p380 : 0 ≤ ((rd (af t365 x1_1) x10_2) : Int) := ac zA
           have q380 : (rd (af t365 x1_1) x10_2) < (t368.length : Int) := ac zA
           obtain ⟨ad380, e380, hx380_0⟩ := Kd.at_int (Kd.R_reads' HO_8.out).2.2 (rd (af t365 x1_1) x10_2) p380 q380
           obtain rfl : ad371 = ad380 := (by injection e380)
           replace p380 := eq_true p380
           replace q380 := eq_true q380
           have p381 : 0 ≤ (x1_1 : Int) := ac zA
           have q381 : x1_1 < (t368.length : Int) := ac zA
           obtain ⟨ad381, e381, hx381_0⟩ := Kd.at_int (Kd.R_reads' HO_8.out).2.2 x1_1 p381 q381
           obtain rfl : ad371 = ad381 := (by injection e381)
           replace p381 := eq_true p381
           replace q381 := eq_true q381
           go_wp2
           repeat (go_quiet (fail); try go_wp2)
           go_roundg k2
           case measure => have := HK1.out; have := HK2.out; omega
           case rel => exact ⟨(wrap64 (x10_2 + 1)), (by first | rfl | (simp; done) | (simp [*]; done)), H', ⟨by have := HK1.out; have := HK2.out; omega⟩, ⟨by (with_reducible repeat (first | apply Kd.S_alloc | apply Kd.S_drewN | apply Kd.S_drew)); exact HO_7.out⟩, ⟨zR HO_8.out⟩, ⟨zR HO_9.out⟩, ⟨zK BK364.out⟩, ⟨zB⟩⟩
end Go.Proofs.YtadjbmcfgjmhkaaGreat.P
