import Derived.Test.YtadjbmcfgjmhkaaGreatSlideWalkG19
namespace Go.Proofs.YtadjbmcfgjmhkaaGreat.P
open Go.RowKit YtadjbmcfgjmhkaaGreatW.PrintWords YtadjbmcfgjmhkaaGreatW.PrintLast YtadjbmcfgjmhkaaGreatW.PrintMore
attribute [local go_sem] aX aT aU aM aV aN aW aQ
set_option maxRecDepth 100000
set_option maxHeartbeats 8000000
set_option linter.unusedVariables false
set_option linter.unusedSimpArgs false
mutual
def cF : Nat → Int → Int → List (List Int) → List Int → List Int → Option (List Int × Bool)
 | 0, _, _, _, _, _ => none
 | k + 1, x1, x2, x8, x9, x10 => if x1 = x2 then (some (x10, true)) else (if 0 ≤ x1 then (if x1 < (x8.length : Int) then (el k x1 x2 x8 x9 x10 (af x8 x1) ((af x8 x1).length : Int) 0) else (none)) else (none))
def el : Nat → Int → Int → List (List Int) → List Int → List Int → List Int → Int → Int → Option (List Int × Bool)
 | 0, _, _, _, _, _, _, _, _ => none
 | k + 1, x1, x2, x8, x9, x10, x31, x32, x33 => if x33 < x32 then (if 0 ≤ x33 then (if x33 < (x31.length : Int) then (if 0 ≤ (rd x31 x33) then (if (rd x31 x33) < (x9.length : Int) then (if 0 ≤ x1 then (if x1 < (x9.length : Int) then (if (rd x9 (rd x31 x33)) = (wrap64 ((rd x9 x1) - 1)) then (if x10.length < 17592186044416 then (cF k (rd x31 x33) x2 x8 x9 (x10 ++ [rd x31 x33])) else (none)) else (el k x1 x2 x8 x9 x10 x31 x32 (wrap64 (x33 + 1)))) else (none)) else (none)) else (none)) else (none)) else (none)) else (none)) else (if x10.length < 17592186044416 then (cF k x1 x2 x8 x9 (x10 ++ [x1])) else (none))
end
def fG (k : Nat) (l0_0 : List (List Int)) (l0_1 : List (S69)) (a1 : Int) (a2 : Int) : Option (List Int × Bool) := (ix k l0_0 l0_1).bind fun t502 => ((gC k t502 a2).bind fun t505 => (if 0 ≤ a1 then (if a1 < (t505.length : Int) then (if (rd t505 a1) < 0 then (some (([] : List Int), false)) else (cF k a1 a2 t502 t505 (([a1] : List Int)))) else (none)) else (none)))
theorem qR (k : Nat) (A0_0 : Option Addr) (c0_0 : Nat) (l0_0 : List (List Int)) (A0_1 : Option Addr) (c0_1 : Nat) (l0_1 : List (S69)) (a1 : Int) (a2 : Int) (r1 : List Int) (r2 : Bool) (w : World) (hr0_0 : Kd.C (Kd.slice 3 (Kd.int .i64)) w A0_0 l0_0.length l0_0) (hc0_0 : l0_0.length ≤ c0_0) (hr0_1 : Kd.C k69 w A0_1 l0_1.length l0_1) (hc0_1 : l0_1.length ≤ c0_1) (h : fG k l0_0 l0_1 a1 a2 = some (r1, r2)) :
 Calls Tryz.prog 65 #[.agg #[.slice A0_0 l0_0.length c0_0, .slice A0_1 l0_1.length c0_1], .int .i64 a1, .int .i64 a2] w fun e w' => ∃ v0_ : Value, e = .returned (.tuple #[v0_, .bool r2]) ∧ Kd.R (Kd.int .i64) 3 w' w.heap.size (fun _ => True) v0_ r1 ∧ Below w.heap.size w w' := by
 have hu52 := Tryz.underlying52
 have HR0_0 := Aside0.mk hr0_0
 have HC0_0 := Aside0.mk hc0_0
 clear hr0_0 hc0_0
 have HR0_1 := Aside0.mk hr0_1
 have HC0_1 := Aside0.mk hc0_1
 clear hr0_1 hc0_1
 have HB := zM (Below.refl w.heap.size w)
 have H := h
 unfold fG at H
 clear h
 replace H := ax H
 obtain ⟨t502, A40, H⟩ := H
 try dsimp only at H
 have A4 := Aside0.mk A40
 clear A40
 replace H := ax H
 obtain ⟨t505, A50, H⟩ := H
 try dsimp only at H
 have A5 := Aside0.mk A50
 clear A50
 by_cases c6 : 0 ≤ a1
 case neg => rw [if_neg c6] at H; simp at H
 rw [if_pos c6] at H
 have c6b0 := ag c6
 clear c6
 by_cases c7 : a1 < (t505.length : Int)
 case neg => rw [if_neg c7] at H; simp at H
 rw [if_pos c7] at H
 have c7b0 := ag c7
 clear c7
 by_cases c8 : (rd t505 a1) < 0
 · rw [if_pos c8] at H
   have c8b0 := ag c8
   clear c8
   simp only [Option.some.injEq, Prod.mk.injEq] at H
   obtain ⟨rfl, rfl⟩ := H
   go_enter Tryz.func65, Tryz.ntmps65
   go_wp2_with (first | ((with_reducible refine ap (N := 3) rfl ?_); refine zb (w := w) 3 #[.slice A0_0 l0_0.length c0_0, .slice A0_1 l0_1.length c0_1] 52 zB ?_; clear HB; intro gb501 w9 HB BK501 GW501; have GE501 := GW501; have hcz10_0 := zy BK501 0; have hcz10_1 := zy BK501 1; have hfz10_0 := ae BK501.out 0; have hfz10_1 := ae BK501.out 1) | (go_at_call 44; (with_reducible refine (fF k _ _ l0_0 _ _ l0_1 t502 _ ?side1 ?side2 ?side3 ?side4 A4.out).mono ?_); (case side1 => exact zC (Kd.C_below HR0_0.out HB.out)); (case side2 => exact HC0_0.out); (case side3 => exact zC (Kd.C_below HR0_1.out HB.out)); (case side4 => exact HC0_1.out); rintro e w11 ⟨v503, rfl, ho0, hb⟩; have HO504 := zM (Kd.S_lower ho0 (ai zB)); replace BK501 := zJ BK501 hb; replace HB := zM (ah zB hb); (try clear hb); (try clear ho0); obtain ⟨Ao12, co12, eo12⟩ := Kd.S_slice HO504.out; subst eo12) | (go_at_call 75; (with_reducible refine (fy k _ _ t502 a2 t505 _ ?side1 ?side2 A5.out).mono ?_); (case side1 => exact zC (Kd.S_reads' HO504.out).2.2); (case side2 => exact (Kd.S_reads' HO504.out).2.1); rintro e w13 ⟨v506, rfl, ho0, hb⟩; replace HO504 := zM (Kd.S_elder' (by (with_reducible repeat (first | apply Kd.S_alloc | apply Kd.S_drewN | apply Kd.S_drew)); exact HO504.out) (Kd.R_base ho0) hb); have HO507 := zM (Kd.R_lower ho0 (ai zB)); replace BK501 := zJ BK501 hb; replace HB := zM (ah zB hb); (try clear hb); (try clear ho0); obtain ⟨Ao14, co14, eo14⟩ := Kd.R_slice HO507.out; subst eo14; have p508 : 0 ≤ (a1 : Int) := ac zA; have q508 : a1 < (t505.length : Int) := ac zA; obtain ⟨ad508, e508, hx508_0⟩ := Kd.at_int (Kd.R_reads' HO507.out).2.2 a1 p508 q508; cases e508; replace p508 := eq_true p508; replace q508 := eq_true q508))
   repeat (go_quiet (first | ((with_reducible refine ap (N := 3) rfl ?_); refine zb (w := w) 3 #[.slice A0_0 l0_0.length c0_0, .slice A0_1 l0_1.length c0_1] 52 zB ?_; clear HB; intro gb501 w9 HB BK501 GW501; have GE501 := GW501; have hcz10_0 := zy BK501 0; have hcz10_1 := zy BK501 1; have hfz10_0 := ae BK501.out 0; have hfz10_1 := ae BK501.out 1) | (go_at_call 44; (with_reducible refine (fF k _ _ l0_0 _ _ l0_1 t502 _ ?side1 ?side2 ?side3 ?side4 A4.out).mono ?_); (case side1 => exact zC (Kd.C_below HR0_0.out HB.out)); (case side2 => exact HC0_0.out); (case side3 => exact zC (Kd.C_below HR0_1.out HB.out)); (case side4 => exact HC0_1.out); rintro e w11 ⟨v503, rfl, ho0, hb⟩; have HO504 := zM (Kd.S_lower ho0 (ai zB)); replace BK501 := zJ BK501 hb; replace HB := zM (ah zB hb); (try clear hb); (try clear ho0); obtain ⟨Ao12, co12, eo12⟩ := Kd.S_slice HO504.out; subst eo12) | (go_at_call 75; (with_reducible refine (fy k _ _ t502 a2 t505 _ ?side1 ?side2 A5.out).mono ?_); (case side1 => exact zC (Kd.S_reads' HO504.out).2.2); (case side2 => exact (Kd.S_reads' HO504.out).2.1); rintro e w13 ⟨v506, rfl, ho0, hb⟩; replace HO504 := zM (Kd.S_elder' (by (with_reducible repeat (first | apply Kd.S_alloc | apply Kd.S_drewN | apply Kd.S_drew)); exact HO504.out) (Kd.R_base ho0) hb); have HO507 := zM (Kd.R_lower ho0 (ai zB)); replace BK501 := zJ BK501 hb; replace HB := zM (ah zB hb); (try clear hb); (try clear ho0); obtain ⟨Ao14, co14, eo14⟩ := Kd.R_slice HO507.out; subst eo14; have p508 : 0 ≤ (a1 : Int) := ac zA; have q508 : a1 < (t505.length : Int) := ac zA; obtain ⟨ad508, e508, hx508_0⟩ := Kd.at_int (Kd.R_reads' HO507.out).2.2 a1 p508 q508; cases e508; replace p508 := eq_true p508; replace q508 := eq_true q508)); try go_wp2_with (first | ((with_reducible refine ap (N := 3) rfl ?_); refine zb (w := w) 3 #[.slice A0_0 l0_0.length c0_0, .slice A0_1 l0_1.length c0_1] 52 zB ?_; clear HB; intro gb501 w9 HB BK501 GW501; have GE501 := GW501; have hcz10_0 := zy BK501 0; have hcz10_1 := zy BK501 1; have hfz10_0 := ae BK501.out 0; have hfz10_1 := ae BK501.out 1) | (go_at_call 44; (with_reducible refine (fF k _ _ l0_0 _ _ l0_1 t502 _ ?side1 ?side2 ?side3 ?side4 A4.out).mono ?_); (case side1 => exact zC (Kd.C_below HR0_0.out HB.out)); (case side2 => exact HC0_0.out); (case side3 => exact zC (Kd.C_below HR0_1.out HB.out)); (case side4 => exact HC0_1.out); rintro e w11 ⟨v503, rfl, ho0, hb⟩; have HO504 := zM (Kd.S_lower ho0 (ai zB)); replace BK501 := zJ BK501 hb; replace HB := zM (ah zB hb); (try clear hb); (try clear ho0); obtain ⟨Ao12, co12, eo12⟩ := Kd.S_slice HO504.out; subst eo12) | (go_at_call 75; (with_reducible refine (fy k _ _ t502 a2 t505 _ ?side1 ?side2 A5.out).mono ?_); (case side1 => exact zC (Kd.S_reads' HO504.out).2.2); (case side2 => exact (Kd.S_reads' HO504.out).2.1); rintro e w13 ⟨v506, rfl, ho0, hb⟩; replace HO504 := zM (Kd.S_elder' (by (with_reducible repeat (first | apply Kd.S_alloc | apply Kd.S_drewN | apply Kd.S_drew)); exact HO504.out) (Kd.R_base ho0) hb); have HO507 := zM (Kd.R_lower ho0 (ai zB)); replace BK501 := zJ BK501 hb; replace HB := zM (ah zB hb); (try clear hb); (try clear ho0); obtain ⟨Ao14, co14, eo14⟩ := Kd.R_slice HO507.out; subst eo14; have p508 : 0 ≤ (a1 : Int) := ac zA; have q508 : a1 < (t505.length : Int) := ac zA; obtain ⟨ad508, e508, hx508_0⟩ := Kd.at_int (Kd.R_reads' HO507.out).2.2 a1 p508 q508; cases e508; replace p508 := eq_true p508; replace q508 := eq_true q508)))
   go_ret2
   exact ⟨_, by first | rfl | (simp [al, ak] <;> rfl) | (simp [*, al, ak] <;> rfl), by first | exact Kd.R_nil _ _ _ _ _ | exact Kd.N_nil _ _ _ _ _ | exact Kd.V_nil _ _ _ _ _ | exact Kd.Q_nil _ _ _ _ _ | exact Kd.S_nil _ _ _ _ _, zB⟩
 · rw [if_neg c8] at H
   have c8b0 : decide ((rd t505 a1) < 0) = false := ar c8
   clear c8
   obtain ⟨y509, hy509⟩ : ∃ y_ : List Int, y_ = (([a1] : List Int)) := ⟨_, rfl⟩
   replace H : (cF k a1 a2 t502 t505 y509) = some (r1, r2) := by first | (rw [hy509]; with_reducible exact H) | (have H2_ := (Option.bind_some _ _).symm.trans H; rw [hy509]; with_reducible exact H2_) | (have H2_ := (Option.bind_some _ _).symm.trans H; with_reducible exact H2_) | with_reducible exact H | (rw [hy509]; exact H) | exact H
   have Ny509 := Aside0.mk hy509
   clear hy509
   have H' := Aside0.mk H
   clear H
   go_enter Tryz.func65, Tryz.ntmps65
   go_wp2_with (first | ((with_reducible refine ap (N := 3) rfl ?_); refine zb (w := w) 3 #[.slice A0_0 l0_0.length c0_0, .slice A0_1 l0_1.length c0_1] 52 zB ?_; clear HB; intro gb501 w15 HB BK501 GW501; have GE501 := GW501; have hcz16_0 := zy BK501 0; have hcz16_1 := zy BK501 1; have hfz16_0 := ae BK501.out 0; have hfz16_1 := ae BK501.out 1) | (go_at_call 44; (with_reducible refine (fF k _ _ l0_0 _ _ l0_1 t502 _ ?side1 ?side2 ?side3 ?side4 A4.out).mono ?_); (case side1 => exact zC (Kd.C_below HR0_0.out HB.out)); (case side2 => exact HC0_0.out); (case side3 => exact zC (Kd.C_below HR0_1.out HB.out)); (case side4 => exact HC0_1.out); rintro e w17 ⟨v503, rfl, ho0, hb⟩; have HO504 := zM (Kd.S_lower ho0 (ai zB)); replace BK501 := zJ BK501 hb; replace HB := zM (ah zB hb); (try clear hb); (try clear ho0); obtain ⟨Ao18, co18, eo18⟩ := Kd.S_slice HO504.out; subst eo18) | (go_at_call 75; (with_reducible refine (fy k _ _ t502 a2 t505 _ ?side1 ?side2 A5.out).mono ?_); (case side1 => exact zC (Kd.S_reads' HO504.out).2.2); (case side2 => exact (Kd.S_reads' HO504.out).2.1); rintro e w19 ⟨v506, rfl, ho0, hb⟩; replace HO504 := zM (Kd.S_elder' (by (with_reducible repeat (first | apply Kd.S_alloc | apply Kd.S_drewN | apply Kd.S_drew)); exact HO504.out) (Kd.R_base ho0) hb); have HO507 := zM (Kd.R_lower ho0 (ai zB)); replace BK501 := zJ BK501 hb; replace HB := zM (ah zB hb); (try clear hb); (try clear ho0); obtain ⟨Ao20, co20, eo20⟩ := Kd.R_slice HO507.out; subst eo20; have p508 : 0 ≤ (a1 : Int) := ac zA; have q508 : a1 < (t505.length : Int) := ac zA; obtain ⟨ad508, e508, hx508_0⟩ := Kd.at_int (Kd.R_reads' HO507.out).2.2 a1 p508 q508; cases e508; replace p508 := eq_true p508; replace q508 := eq_true q508) | ((with_reducible refine ap (N := 24) rfl ?_); refine Kd.R_lit (Kd.int .i64) _ 3 ?hg (N := 24) ?hd (xs := ([a1] : List Int)) (inner := [.int .i64 a1]) (ok := fun _ => True) (okp := fun _ => True) ?hr ?hp (fun _ hk => hk) trivial (Below.refl _ _) (au _) (by simp) ?_; (case hd => rfl); (case hg => rfl); (case hr => first | (go_simp; done) | (go_simp; rfl)); (case hp => exact (Reps.one (show Kd.M (Kd.int .i64) _ _ _ a1 [.int .i64 a1] from rfl) (Reps.none _ _))); intro v510 w21 ho22 hb hg_ hnew_; clear hg_ hnew_; (first | rw [← Ny509.out] at ho22 | (simp only [Int.reduceToNat] at ho22; rw [← Ny509.out] at ho22)); replace HO504 := zM (Kd.S_elder' (by (with_reducible repeat (first | apply Kd.S_alloc | apply Kd.S_drewN | apply Kd.S_drew)); exact HO504.out) (Kd.R_base ho22) hb); have HO511 := zM (Kd.R_lower (Kd.R_new' ho22 (Kd.R_lt (zR HO507.out))) (ai zB)); replace HO507 := zM (Kd.R_elder' (zR HO507.out) (Kd.R_base ho22) hb); replace BK501 := zJ BK501 hb; replace HB := zM (ah zB hb); clear hb ho22))
   repeat (go_quiet (first | ((with_reducible refine ap (N := 3) rfl ?_); refine zb (w := w) 3 #[.slice A0_0 l0_0.length c0_0, .slice A0_1 l0_1.length c0_1] 52 zB ?_; clear HB; intro gb501 w15 HB BK501 GW501; have GE501 := GW501; have hcz16_0 := zy BK501 0; have hcz16_1 := zy BK501 1; have hfz16_0 := ae BK501.out 0; have hfz16_1 := ae BK501.out 1) | (go_at_call 44; (with_reducible refine (fF k _ _ l0_0 _ _ l0_1 t502 _ ?side1 ?side2 ?side3 ?side4 A4.out).mono ?_); (case side1 => exact zC (Kd.C_below HR0_0.out HB.out)); (case side2 => exact HC0_0.out); (case side3 => exact zC (Kd.C_below HR0_1.out HB.out)); (case side4 => exact HC0_1.out); rintro e w17 ⟨v503, rfl, ho0, hb⟩; have HO504 := zM (Kd.S_lower ho0 (ai zB)); replace BK501 := zJ BK501 hb; replace HB := zM (ah zB hb); (try clear hb); (try clear ho0); obtain ⟨Ao18, co18, eo18⟩ := Kd.S_slice HO504.out; subst eo18) | (go_at_call 75; (with_reducible refine (fy k _ _ t502 a2 t505 _ ?side1 ?side2 A5.out).mono ?_); (case side1 => exact zC (Kd.S_reads' HO504.out).2.2); (case side2 => exact (Kd.S_reads' HO504.out).2.1); rintro e w19 ⟨v506, rfl, ho0, hb⟩; replace HO504 := zM (Kd.S_elder' (by (with_reducible repeat (first | apply Kd.S_alloc | apply Kd.S_drewN | apply Kd.S_drew)); exact HO504.out) (Kd.R_base ho0) hb); have HO507 := zM (Kd.R_lower ho0 (ai zB)); replace BK501 := zJ BK501 hb; replace HB := zM (ah zB hb); (try clear hb); (try clear ho0); obtain ⟨Ao20, co20, eo20⟩ := Kd.R_slice HO507.out; subst eo20; have p508 : 0 ≤ (a1 : Int) := ac zA; have q508 : a1 < (t505.length : Int) := ac zA; obtain ⟨ad508, e508, hx508_0⟩ := Kd.at_int (Kd.R_reads' HO507.out).2.2 a1 p508 q508; cases e508; replace p508 := eq_true p508; replace q508 := eq_true q508) | ((with_reducible refine ap (N := 24) rfl ?_); refine Kd.R_lit (Kd.int .i64) _ 3 ?hg (N := 24) ?hd (xs := ([a1] : List Int)) (inner := [.int .i64 a1]) (ok := fun _ => True) (okp := fun _ => True) ?hr ?hp (fun _ hk => hk) trivial (Below.refl _ _) (au _) (by simp) ?_; (case hd => rfl); (case hg => rfl); (case hr => first | (go_simp; done) | (go_simp; rfl)); (case hp => exact (Reps.one (show Kd.M (Kd.int .i64) _ _ _ a1 [.int .i64 a1] from rfl) (Reps.none _ _))); intro v510 w21 ho22 hb hg_ hnew_; clear hg_ hnew_; (first | rw [← Ny509.out] at ho22 | (simp only [Int.reduceToNat] at ho22; rw [← Ny509.out] at ho22)); replace HO504 := zM (Kd.S_elder' (by (with_reducible repeat (first | apply Kd.S_alloc | apply Kd.S_drewN | apply Kd.S_drew)); exact HO504.out) (Kd.R_base ho22) hb); have HO511 := zM (Kd.R_lower (Kd.R_new' ho22 (Kd.R_lt (zR HO507.out))) (ai zB)); replace HO507 := zM (Kd.R_elder' (zR HO507.out) (Kd.R_base ho22) hb); replace BK501 := zJ BK501 hb; replace HB := zM (ah zB hb); clear hb ho22)); try go_wp2_with (first | ((with_reducible refine ap (N := 3) rfl ?_); refine zb (w := w) 3 #[.slice A0_0 l0_0.length c0_0, .slice A0_1 l0_1.length c0_1] 52 zB ?_; clear HB; intro gb501 w15 HB BK501 GW501; have GE501 := GW501; have hcz16_0 := zy BK501 0; have hcz16_1 := zy BK501 1; have hfz16_0 := ae BK501.out 0; have hfz16_1 := ae BK501.out 1) | (go_at_call 44; (with_reducible refine (fF k _ _ l0_0 _ _ l0_1 t502 _ ?side1 ?side2 ?side3 ?side4 A4.out).mono ?_); (case side1 => exact zC (Kd.C_below HR0_0.out HB.out)); (case side2 => exact HC0_0.out); (case side3 => exact zC (Kd.C_below HR0_1.out HB.out)); (case side4 => exact HC0_1.out); rintro e w17 ⟨v503, rfl, ho0, hb⟩; have HO504 := zM (Kd.S_lower ho0 (ai zB)); replace BK501 := zJ BK501 hb; replace HB := zM (ah zB hb); (try clear hb); (try clear ho0); obtain ⟨Ao18, co18, eo18⟩ := Kd.S_slice HO504.out; subst eo18) | (go_at_call 75; (with_reducible refine (fy k _ _ t502 a2 t505 _ ?side1 ?side2 A5.out).mono ?_); (case side1 => exact zC (Kd.S_reads' HO504.out).2.2); (case side2 => exact (Kd.S_reads' HO504.out).2.1); rintro e w19 ⟨v506, rfl, ho0, hb⟩; replace HO504 := zM (Kd.S_elder' (by (with_reducible repeat (first | apply Kd.S_alloc | apply Kd.S_drewN | apply Kd.S_drew)); exact HO504.out) (Kd.R_base ho0) hb); have HO507 := zM (Kd.R_lower ho0 (ai zB)); replace BK501 := zJ BK501 hb; replace HB := zM (ah zB hb); (try clear hb); (try clear ho0); obtain ⟨Ao20, co20, eo20⟩ := Kd.R_slice HO507.out; subst eo20; have p508 : 0 ≤ (a1 : Int) := ac zA; have q508 : a1 < (t505.length : Int) := ac zA; obtain ⟨ad508, e508, hx508_0⟩ := Kd.at_int (Kd.R_reads' HO507.out).2.2 a1 p508 q508; cases e508; replace p508 := eq_true p508; replace q508 := eq_true q508) | ((with_reducible refine ap (N := 24) rfl ?_); refine Kd.R_lit (Kd.int .i64) _ 3 ?hg (N := 24) ?hd (xs := ([a1] : List Int)) (inner := [.int .i64 a1]) (ok := fun _ => True) (okp := fun _ => True) ?hr ?hp (fun _ hk => hk) trivial (Below.refl _ _) (au _) (by simp) ?_; (case hd => rfl); (case hg => rfl); (case hr => first | (go_simp; done) | (go_simp; rfl)); (case hp => exact (Reps.one (show Kd.M (Kd.int .i64) _ _ _ a1 [.int .i64 a1] from rfl) (Reps.none _ _))); intro v510 w21 ho22 hb hg_ hnew_; clear hg_ hnew_; (first | rw [← Ny509.out] at ho22 | (simp only [Int.reduceToNat] at ho22; rw [← Ny509.out] at ho22)); replace HO504 := zM (Kd.S_elder' (by (with_reducible repeat (first | apply Kd.S_alloc | apply Kd.S_drewN | apply Kd.S_drew)); exact HO504.out) (Kd.R_base ho22) hb); have HO511 := zM (Kd.R_lower (Kd.R_new' ho22 (Kd.R_lt (zR HO507.out))) (ai zB)); replace HO507 := zM (Kd.R_elder' (zR HO507.out) (Kd.R_base ho22) hb); replace BK501 := zJ BK501 hb; replace HB := zM (ah zB hb); clear hb ho22)))
   go_loopg [1, 10] k (fun kq v1 v10 w' => ∃ (x1_1 : Int) (x10_1 : List Int), v1 = .int .i64 x1_1 ∧ Aside0 (cF kq x1_1 a2 t502 t505 x10_1 = some (r1, r2)) ∧ Aside0 (kq ≤ k) ∧ Aside0 (Kd.S (Kd.slice 3 (Kd.int .i64)) 25 w' w.heap.size (fun k_ => some k_ ≠ ((.slice (some ad508) t505.length co20) : Value).ownBlock ∧ some k_ ≠ (v10 : Value).ownBlock) (.slice Ao18 t502.length co18) t502) ∧ Aside0 (Kd.R (Kd.int .i64) 3 w' w.heap.size (fun k_ => some k_ ≠ (v10 : Value).ownBlock) (.slice (some ad508) t505.length co20) t505) ∧ Aside0 (Kd.R (Kd.int .i64) 3 w' w.heap.size (fun k_ => some k_ ≠ ((.slice (some ad508) t505.length co20) : Value).ownBlock) v10 x10_1) ∧ Aside0 (w'.heap[gb501]? = some (.cells #[(.slice A0_0 l0_0.length c0_0), (.slice A0_1 l0_1.length c0_1)] 52 (0, 0))) ∧ Aside0 (Below w.heap.size w w'))
   case atStart => exact ⟨(a1), (y509), (by first | rfl | (simp; done) | (simp [*]; done)), H', ⟨au _⟩, ⟨by (with_reducible repeat (first | apply Kd.S_alloc | apply Kd.S_drewN | apply Kd.S_drew)); exact Kd.S_mono HO504.out (fun _ hk => ⟨hk.1.2, hk.2⟩)⟩, ⟨by (with_reducible repeat (first | apply Kd.R_alloc | apply Kd.R_drewN | apply Kd.R_drew)); exact Kd.R_mono HO507.out (fun _ hk => hk.2)⟩, ⟨by (with_reducible repeat (first | apply Kd.R_alloc | apply Kd.R_drewN | apply Kd.R_drew)); exact Kd.R_mono HO511.out (fun _ hk => hk.2)⟩, ⟨zK BK501.out⟩, ⟨zB⟩⟩
   case round =>
    clear H'
    try clear p2
    try clear p5
    try clear q5
    try clear hx5
    try clear c6
    try clear c6b0
    try clear c7
    try clear c7b0
    try clear c8
    try clear c8b0
    try clear hcz10_0
    try clear hcz10_1
    try clear hcz16_0
    try clear hcz16_1
    try clear hfz10_0
    try clear hfz10_1
    try clear hfz16_0
    try clear hfz16_1
    try clear hx508_0
    try clear p508
    try clear q508
    obtain ⟨x1_1, x10_1, rfl, HA, HK1, HO_8, HO_9, HO_10, BK501, HB⟩ := hrel
    cases gk with
    | zero => exact absurd HA.out (by simp [cF])
    | succ k1 =>
     have H := HA.out
     clear HA
     simp only [cF] at H
     by_cases c23 : x1_1 = a2
     · rw [if_pos c23] at H
       have c23b0 : (x1_1 == a2) = true := beq_iff_eq.mpr c23
       have c23b1 : (x1_1 != a2) = false := bne_eq_false_iff_eq.mpr c23
       clear c23
       simp only [Option.some.injEq, Prod.mk.injEq] at H
       obtain ⟨rfl, rfl⟩ := H
       go_wp2
       repeat (go_quiet (fail); try go_wp2)
       go_ret2
       exact ⟨_, by first | rfl | (simp [al, ak] <;> rfl) | (simp [*, al, ak] <;> rfl), by (with_reducible repeat (first | apply Kd.R_alloc | apply Kd.R_drewN | apply Kd.R_drew)); exact Kd.R_mono HO_10.out (fun _ hk => trivial), zB⟩
     · rw [if_neg c23] at H
       have c23b0 : (x1_1 == a2) = false := beq_eq_false_iff_ne.mpr c23
       have c23b1 : (x1_1 != a2) = true := bne_iff_ne.mpr c23
       by_cases c24 : 0 ≤ x1_1
       case neg => rw [if_neg c24] at H; simp at H
       rw [if_pos c24] at H
       have c24b0 := ag c24
       clear c24
       by_cases c25 : x1_1 < (t502.length : Int)
       case neg => rw [if_neg c25] at H; simp at H
       rw [if_pos c25] at H
       have c25b0 := ag c25
       clear c25
       have H' := Aside0.mk H
       clear H
       have p512 : 0 ≤ (x1_1 : Int) := ac zA
       have q512 : x1_1 < (t502.length : Int) := ac zA
       obtain ⟨ad512, A512_0, c512_0, e512, hx512_0, hl512_0, hi512_0⟩ := bf (Kd.S_reads' HO_8.out).2.2 x1_1 p512 q512
       cases e512
       obtain ⟨ce512, hce512, hMe512, hcc512⟩ := Kd.S_get HO_8.out [] x1_1 p512 (by first | exact q512 | exact ac zA | (have e_ := (Kd.S_reads' HO_8.out).1; omega))
       obtain ⟨ve512_0, rfl, ge512_0⟩ := hMe512
       have hv512_0 := hcc512 0 _ rfl
       rw [Nat.add_zero, show ((Kd.slice 3 (Kd.int .i64))).sz = 1 from rfl, Nat.mul_one] at hv512_0
       replace hv512_0 := ao (hv512_0.symm.trans hx512_0)
       rw [hv512_0] at ge512_0
       have HL512_0 := zM (show Kd.R (Kd.int .i64) 3 _ _ _ _ (af t502 x1_1) from ge512_0)
       clear hv512_0 ge512_0
       clear hcc512 hce512
       have HR512_0 := Aside0.mk hi512_0
       have HC512_0 := Aside0.mk hl512_0
       clear hi512_0 hl512_0
       replace p512 := eq_true p512
       replace q512 := eq_true q512
       go_wp2
       repeat (go_quiet (fail); try go_wp2)
       go_loopg [1, 33] k1 (fun kq v1 v33 w' => ∃ (x1_2 : Int) (x33_2 : Int), v1 = .int .i64 x1_2 ∧ v33 = .int .i64 x33_2 ∧ Aside0 (el kq x1_2 a2 t502 t505 x10_1 (af t502 x1_1) ((af t502 x1_1).length : Int) x33_2 = some (r1, r2)) ∧ Aside0 (kq ≤ k1) ∧ Aside0 (Kd.S (Kd.slice 3 (Kd.int .i64)) 25 w' w.heap.size (fun k_ => some k_ ≠ ((.slice (some ad508) t505.length co20) : Value).ownBlock ∧ some k_ ≠ (u10 : Value).ownBlock) (.slice (some ad512) t502.length co18) t502) ∧ Aside0 (Kd.R (Kd.int .i64) 3 w' w.heap.size (fun k_ => some k_ ≠ (u10 : Value).ownBlock) (.slice (some ad508) t505.length co20) t505) ∧ Aside0 (Kd.R (Kd.int .i64) 3 w' w.heap.size (fun k_ => some k_ ≠ ((.slice (some ad508) t505.length co20) : Value).ownBlock) u10 x10_1) ∧ Aside0 (w'.heap[gb501]? = some (.cells #[(.slice A0_0 l0_0.length c0_0), (.slice A0_1 l0_1.length c0_1)] 52 (0, 0))) ∧ Aside0 (Kd.C (Kd.int .i64) w' A512_0 (af t502 x1_1).length (af t502 x1_1)) ∧ Aside0 (Below w.heap.size w w'))
       case atStart => exact ⟨(x1_1), (0), (by first | rfl | (simp; done) | (simp [*]; done)), (by first | rfl | (simp; done) | (simp [*]; done)), H', ⟨au _⟩, ⟨by (with_reducible repeat (first | apply Kd.S_alloc | apply Kd.S_drewN | apply Kd.S_drew)); exact HO_8.out⟩, ⟨zR HO_9.out⟩, ⟨zR HO_10.out⟩, ⟨zK BK501.out⟩, ⟨zC HR512_0.out⟩, ⟨zB⟩⟩
       case round =>
        clear H'
        try clear c2
        try clear p2
        try clear c5
        try clear p5
        try clear q5
        try clear hx5
        try clear c6
        try clear c6b0
        try clear c7
        try clear c7b0
        try clear c8
        try clear c8b0
        try clear c23
        try clear c23b0
        try clear c23b1
        try clear c24
        try clear c24b0
        try clear c25
        try clear c25b0
        try clear hcz10_0
        try clear hcz10_1
        try clear hcz16_0
        try clear hcz16_1
        try clear hfz10_0
        try clear hfz10_1
        try clear hfz16_0
        try clear hfz16_1
        try clear hx508_0
        try clear hx512_0
        try clear p2
        try clear p5
        try clear p508
        try clear p512
        try clear q5
        try clear q508
        try clear q512
        obtain ⟨x1_2, x33_2, rfl, rfl, HA, HK2, HO_8, HO_9, HO_10, BK501, HR512_0, HB⟩ := hrel
        cases gk with
        | zero => exact absurd HA.out (by simp [el])
        | succ k2 =>
         have H := HA.out
         clear HA
         simp only [el] at H
         by_cases c26 : x33_2 < ((af t502 x1_1).length : Int)
         · rw [if_pos c26] at H
           have c26b0 := ag c26
           clear c26
           by_cases c27 : 0 ≤ x33_2
           case neg => rw [if_neg c27] at H; simp at H
           rw [if_pos c27] at H
           have c27b0 := ag c27
           clear c27
           by_cases c28 : x33_2 < ((af t502 x1_1).length : Int)
           case neg => rw [if_neg c28] at H; simp at H
           rw [if_pos c28] at H
           have c28b0 := ag c28
           clear c28
           by_cases c29 : 0 ≤ (rd (af t502 x1_1) x33_2)
           case neg => rw [if_neg c29] at H; simp at H
           rw [if_pos c29] at H
           have c29b0 := ag c29
           clear c29
           by_cases c30 : (rd (af t502 x1_1) x33_2) < (t505.length : Int)
           case neg => rw [if_neg c30] at H; simp at H
           rw [if_pos c30] at H
           have c30b0 := ag c30
           clear c30
           by_cases c31 : 0 ≤ x1_2
           case neg => rw [if_neg c31] at H; simp at H
           rw [if_pos c31] at H
           have c31b0 := ag c31
           clear c31
           by_cases c32 : x1_2 < (t505.length : Int)
           case neg => rw [if_neg c32] at H; simp at H
           rw [if_pos c32] at H
           have c32b0 := ag c32
           clear c32
           by_cases c33 : (rd t505 (rd (af t502 x1_1) x33_2)) = (wrap64 ((rd t505 x1_2) - 1))
           · rw [if_pos c33] at H
             have c33b0 : ((rd t505 (rd (af t502 x1_1) x33_2)) == (wrap64 ((rd t505 x1_2) - 1))) = true := beq_iff_eq.mpr c33
             have c33b1 : ((rd t505 (rd (af t502 x1_1) x33_2)) != (wrap64 ((rd t505 x1_2) - 1))) = false := bne_eq_false_iff_eq.mpr c33
             clear c33
             by_cases c34 : x10_1.length < 17592186044416
             case neg => rw [if_neg c34] at H; simp at H
             rw [if_pos c34] at H
             have LMc34 := Aside0.mk c34
             clear c34
             obtain ⟨y516, hy516⟩ : ∃ y_ : List Int, y_ = (x10_1 ++ [rd (af t502 x1_1) x33_2]) := ⟨_, rfl⟩
             replace H : (cF k2 (rd (af t502 x1_1) x33_2) a2 t502 t505 y516) = some (r1, r2) := by first | (rw [hy516]; with_reducible exact H) | (have H2_ := (Option.bind_some _ _).symm.trans H; rw [hy516]; with_reducible exact H2_) | (have H2_ := (Option.bind_some _ _).symm.trans H; with_reducible exact H2_) | with_reducible exact H | (rw [hy516]; exact H) | exact H
             have Ny516 := Aside0.mk hy516
             clear hy516
             have H' := Aside0.mk H
             clear H
             have p513 : 0 ≤ (x33_2 : Int) := ac zA
             have q513 : x33_2 < ((af t502 x1_1).length : Int) := ac zA
             obtain ⟨ad513, e513, hx513_0⟩ := Kd.at_int HR512_0.out x33_2 p513 q513
             cases e513
             (try replace hx513_0 := (HB.out.cell (aj w _ hx513_0)).trans hx513_0)
             replace p513 := eq_true p513
             replace q513 := eq_true q513
             have p514 : 0 ≤ ((rd (af t502 x1_1) x33_2) : Int) := ac zA
             have q514 : (rd (af t502 x1_1) x33_2) < (t505.length : Int) := ac zA
             obtain ⟨ad514, e514, hx514_0⟩ := Kd.at_int (Kd.R_reads' HO_9.out).2.2 (rd (af t502 x1_1) x33_2) p514 q514
             obtain rfl : ad508 = ad514 := (by injection e514)
             replace p514 := eq_true p514
             replace q514 := eq_true q514
             have p515 : 0 ≤ (x1_2 : Int) := ac zA
             have q515 : x1_2 < (t505.length : Int) := ac zA
             obtain ⟨ad515, e515, hx515_0⟩ := Kd.at_int (Kd.R_reads' HO_9.out).2.2 x1_2 p515 q515
             obtain rfl : ad508 = ad515 := (by injection e515)
             replace p515 := eq_true p515
             replace q515 := eq_true q515
             go_wp2_with (first | ((with_reducible refine br (b := .append) (xs := #[.tmp 49, .tmp 51]) rfl ?_); at_builtin; refine Kd.R_append (Kd.int .i64) (w0 := w) w.heap.size rfl (.tmp 49) (.tmp 51) 25 3 (.int .i64 0) 8 rfl Tryz.underlying25 bq rfl (by decide) (by omega) u10 x10_1 (rd (af t502 x1_1) x33_2) [.int .i64 (rd (af t502 x1_1) x33_2)] (fun k_ => some k_ ≠ (.slice (some ad508) t505.length co20 : Value).ownBlock) (fun _ => False) rfl rfl ?aP (fun _ hk => hk.elim) ?aF ?aO ?aB ?aS ?aL ?_; (case aP => exact rfl); (case aB => exact zB); (case aF => exact (fun k_ hk => Kd.fresh' (Kd.R_lt (zR HO_9.out)) k_ hk)); (case aO => exact (zR HO_10.out)); (case aS => exact (ai zB)); (case aL => have := LMc34.out; omega); intro v517 w35 ho hb hg hat; rw [← Ny516.out] at ho; replace HO_8 := zM (Kd.S_after (ok := (fun k_ => some k_ ≠ (.slice (some ad508) t505.length co20 : Value).ownBlock)) (by (with_reducible repeat (first | apply Kd.S_alloc | apply Kd.S_drewN | apply Kd.S_drew)); exact HO_8.out) hg hat); replace HO_9 := zM (Kd.R_after (ok := (fun _ => True)) (by (with_reducible repeat (first | apply Kd.R_alloc | apply Kd.R_drewN | apply Kd.R_drew)); exact Kd.R_mono HO_9.out (fun _ hk => ⟨trivial, hk⟩)) hg hat); replace BK501 := zM (bc (g := gb501) (o := .cells #[.slice A0_0 l0_0.length c0_0, .slice A0_1 l0_1.length c0_1] 52 (0, 0)) (zK BK501.out) hg (Kd.R_ne HO_10.out BK501.out (by decide))); replace HB := zM (hb); have HO518 := zM (ho); clear HO_10; clear ho hb hg hat))
             repeat (go_quiet (first | ((with_reducible refine br (b := .append) (xs := #[.tmp 49, .tmp 51]) rfl ?_); at_builtin; refine Kd.R_append (Kd.int .i64) (w0 := w) w.heap.size rfl (.tmp 49) (.tmp 51) 25 3 (.int .i64 0) 8 rfl Tryz.underlying25 bq rfl (by decide) (by omega) u10 x10_1 (rd (af t502 x1_1) x33_2) [.int .i64 (rd (af t502 x1_1) x33_2)] (fun k_ => some k_ ≠ (.slice (some ad508) t505.length co20 : Value).ownBlock) (fun _ => False) rfl rfl ?aP (fun _ hk => hk.elim) ?aF ?aO ?aB ?aS ?aL ?_; (case aP => exact rfl); (case aB => exact zB); (case aF => exact (fun k_ hk => Kd.fresh' (Kd.R_lt (zR HO_9.out)) k_ hk)); (case aO => exact (zR HO_10.out)); (case aS => exact (ai zB)); (case aL => have := LMc34.out; omega); intro v517 w35 ho hb hg hat; rw [← Ny516.out] at ho; replace HO_8 := zM (Kd.S_after (ok := (fun k_ => some k_ ≠ (.slice (some ad508) t505.length co20 : Value).ownBlock)) (by (with_reducible repeat (first | apply Kd.S_alloc | apply Kd.S_drewN | apply Kd.S_drew)); exact HO_8.out) hg hat); replace HO_9 := zM (Kd.R_after (ok := (fun _ => True)) (by (with_reducible repeat (first | apply Kd.R_alloc | apply Kd.R_drewN | apply Kd.R_drew)); exact Kd.R_mono HO_9.out (fun _ hk => ⟨trivial, hk⟩)) hg hat); replace BK501 := zM (bc (g := gb501) (o := .cells #[.slice A0_0 l0_0.length c0_0, .slice A0_1 l0_1.length c0_1] 52 (0, 0)) (zK BK501.out) hg (Kd.R_ne HO_10.out BK501.out (by decide))); replace HB := zM (hb); have HO518 := zM (ho); clear HO_10; clear ho hb hg hat)); try go_wp2_with (first | ((with_reducible refine br (b := .append) (xs := #[.tmp 49, .tmp 51]) rfl ?_); at_builtin; refine Kd.R_append (Kd.int .i64) (w0 := w) w.heap.size rfl (.tmp 49) (.tmp 51) 25 3 (.int .i64 0) 8 rfl Tryz.underlying25 bq rfl (by decide) (by omega) u10 x10_1 (rd (af t502 x1_1) x33_2) [.int .i64 (rd (af t502 x1_1) x33_2)] (fun k_ => some k_ ≠ (.slice (some ad508) t505.length co20 : Value).ownBlock) (fun _ => False) rfl rfl ?aP (fun _ hk => hk.elim) ?aF ?aO ?aB ?aS ?aL ?_; (case aP => exact rfl); (case aB => exact zB); (case aF => exact (fun k_ hk => Kd.fresh' (Kd.R_lt (zR HO_9.out)) k_ hk)); (case aO => exact (zR HO_10.out)); (case aS => exact (ai zB)); (case aL => have := LMc34.out; omega); intro v517 w35 ho hb hg hat; rw [← Ny516.out] at ho; replace HO_8 := zM (Kd.S_after (ok := (fun k_ => some k_ ≠ (.slice (some ad508) t505.length co20 : Value).ownBlock)) (by (with_reducible repeat (first | apply Kd.S_alloc | apply Kd.S_drewN | apply Kd.S_drew)); exact HO_8.out) hg hat); replace HO_9 := zM (Kd.R_after (ok := (fun _ => True)) (by (with_reducible repeat (first | apply Kd.R_alloc | apply Kd.R_drewN | apply Kd.R_drew)); exact Kd.R_mono HO_9.out (fun _ hk => ⟨trivial, hk⟩)) hg hat); replace BK501 := zM (bc (g := gb501) (o := .cells #[.slice A0_0 l0_0.length c0_0, .slice A0_1 l0_1.length c0_1] 52 (0, 0)) (zK BK501.out) hg (Kd.R_ne HO_10.out BK501.out (by decide))); replace HB := zM (hb); have HO518 := zM (ho); clear HO_10; clear ho hb hg hat)))
             go_roundg k2
             case measure => have := HK1.out; have := HK2.out; omega
             case rel => exact ⟨(rd (af t502 x1_1) x33_2), (y516), (by first | rfl | (simp; done) | (simp [*]; done)), H', ⟨by have := HK1.out; have := HK2.out; omega⟩, ⟨by (with_reducible repeat (first | apply Kd.S_alloc | apply Kd.S_drewN | apply Kd.S_drew)); exact HO_8.out⟩, ⟨by (with_reducible repeat (first | apply Kd.R_alloc | apply Kd.R_drewN | apply Kd.R_drew)); exact Kd.R_mono HO_9.out (fun _ hk => hk.2)⟩, ⟨zR HO518.out⟩, ⟨zK BK501.out⟩, ⟨zB⟩⟩
           · rw [if_neg c33] at H
             have c33b0 : ((rd t505 (rd (af t502 x1_1) x33_2)) == (wrap64 ((rd t505 x1_2) - 1))) = false := beq_eq_false_iff_ne.mpr c33
             have c33b1 : ((rd t505 (rd (af t502 x1_1) x33_2)) != (wrap64 ((rd t505 x1_2) - 1))) = true := bne_iff_ne.mpr c33
             have H' := Aside0.mk H
             clear H
             have p513 : 0 ≤ (x33_2 : Int) := ac zA
             have q513 : x33_2 < ((af t502 x1_1).length : Int) := ac zA
             obtain ⟨ad513, e513, hx513_0⟩ := Kd.at_int HR512_0.out x33_2 p513 q513
             cases e513
             (try replace hx513_0 := (HB.out.cell (aj w _ hx513_0)).trans hx513_0)
             replace p513 := eq_true p513
             replace q513 := eq_true q513
             have p514 : 0 ≤ ((rd (af t502 x1_1) x33_2) : Int) := ac zA
             have q514 : (rd (af t502 x1_1) x33_2) < (t505.length : Int) := ac zA
             obtain ⟨ad514, e514, hx514_0⟩ := Kd.at_int (Kd.R_reads' HO_9.out).2.2 (rd (af t502 x1_1) x33_2) p514 q514
             obtain rfl : ad508 = ad514 := (by injection e514)
             replace p514 := eq_true p514
             replace q514 := eq_true q514
             have p515 : 0 ≤ (x1_2 : Int) := ac zA
             have q515 : x1_2 < (t505.length : Int) := ac zA
             obtain ⟨ad515, e515, hx515_0⟩ := Kd.at_int (Kd.R_reads' HO_9.out).2.2 x1_2 p515 q515
             obtain rfl : ad508 = ad515 := (by injection e515)
             replace p515 := eq_true p515
             replace q515 := eq_true q515
             go_wp2
             repeat (go_quiet (fail); try go_wp2)
             go_roundg k2
             case measure => have := HK1.out; have := HK2.out; omega
             case rel => exact ⟨(x1_2), (wrap64 (x33_2 + 1)), (by first | rfl | (simp; done) | (simp [*]; done)), (by first | rfl | (simp; done) | (simp [*]; done)), H', ⟨by have := HK1.out; have := HK2.out; omega⟩, ⟨by (with_reducible repeat (first | apply Kd.S_alloc | apply Kd.S_drewN | apply Kd.S_drew)); exact HO_8.out⟩, ⟨zR HO_9.out⟩, ⟨zR HO_10.out⟩, ⟨zK BK501.out⟩, ⟨zC HR512_0.out⟩, ⟨zB⟩⟩
         · rw [if_neg c26] at H
           have c26b0 : decide (x33_2 < ((af t502 x1_1).length : Int)) = false := ar c26
           clear c26
           by_cases c36 : x10_1.length < 17592186044416
           case neg => rw [if_neg c36] at H; simp at H
           rw [if_pos c36] at H
           have LMc36 := Aside0.mk c36
           clear c36
           obtain ⟨y519, hy519⟩ : ∃ y_ : List Int, y_ = (x10_1 ++ [x1_2]) := ⟨_, rfl⟩
           replace H : (cF k2 x1_2 a2 t502 t505 y519) = some (r1, r2) := by first | (rw [hy519]; with_reducible exact H) | (have H2_ := (Option.bind_some _ _).symm.trans H; rw [hy519]; with_reducible exact H2_) | (have H2_ := (Option.bind_some _ _).symm.trans H; with_reducible exact H2_) | with_reducible exact H | (rw [hy519]; exact H) | exact H
           have Ny519 := Aside0.mk hy519
           clear hy519
           have H' := Aside0.mk H
           clear H
           go_wp2_with (first | ((with_reducible refine br (b := .append) (xs := #[.tmp 49, .tmp 51]) rfl ?_); at_builtin; refine Kd.R_append (Kd.int .i64) (w0 := w) w.heap.size rfl (.tmp 49) (.tmp 51) 25 3 (.int .i64 0) 8 rfl Tryz.underlying25 bq rfl (by decide) (by omega) u10 x10_1 x1_2 [.int .i64 x1_2] (fun k_ => some k_ ≠ (.slice (some ad508) t505.length co20 : Value).ownBlock) (fun _ => False) rfl rfl ?aP (fun _ hk => hk.elim) ?aF ?aO ?aB ?aS ?aL ?_; (case aP => exact rfl); (case aB => exact zB); (case aF => exact (fun k_ hk => Kd.fresh' (Kd.R_lt (zR HO_9.out)) k_ hk)); (case aO => exact (zR HO_10.out)); (case aS => exact (ai zB)); (case aL => have := LMc36.out; omega); intro v520 w37 ho hb hg hat; rw [← Ny519.out] at ho; replace HO_8 := zM (Kd.S_after (ok := (fun k_ => some k_ ≠ (.slice (some ad508) t505.length co20 : Value).ownBlock)) (by (with_reducible repeat (first | apply Kd.S_alloc | apply Kd.S_drewN | apply Kd.S_drew)); exact HO_8.out) hg hat); replace HO_9 := zM (Kd.R_after (ok := (fun _ => True)) (by (with_reducible repeat (first | apply Kd.R_alloc | apply Kd.R_drewN | apply Kd.R_drew)); exact Kd.R_mono HO_9.out (fun _ hk => ⟨trivial, hk⟩)) hg hat); replace BK501 := zM (bc (g := gb501) (o := .cells #[.slice A0_0 l0_0.length c0_0, .slice A0_1 l0_1.length c0_1] 52 (0, 0)) (zK BK501.out) hg (Kd.R_ne HO_10.out BK501.out (by decide))); replace HB := zM (hb); have HO521 := zM (ho); clear HO_10; clear ho hb hg hat))
           repeat (go_quiet (first | ((with_reducible refine br (b := .append) (xs := #[.tmp 49, .tmp 51]) rfl ?_); at_builtin; refine Kd.R_append (Kd.int .i64) (w0 := w) w.heap.size rfl (.tmp 49) (.tmp 51) 25 3 (.int .i64 0) 8 rfl Tryz.underlying25 bq rfl (by decide) (by omega) u10 x10_1 x1_2 [.int .i64 x1_2] (fun k_ => some k_ ≠ (.slice (some ad508) t505.length co20 : Value).ownBlock) (fun _ => False) rfl rfl ?aP (fun _ hk => hk.elim) ?aF ?aO ?aB ?aS ?aL ?_; (case aP => exact rfl); (case aB => exact zB); (case aF => exact (fun k_ hk => Kd.fresh' (Kd.R_lt (zR HO_9.out)) k_ hk)); (case aO => exact (zR HO_10.out)); (case aS => exact (ai zB)); (case aL => have := LMc36.out; omega); intro v520 w37 ho hb hg hat; rw [← Ny519.out] at ho; replace HO_8 := zM (Kd.S_after (ok := (fun k_ => some k_ ≠ (.slice (some ad508) t505.length co20 : Value).ownBlock)) (by (with_reducible repeat (first | apply Kd.S_alloc | apply Kd.S_drewN | apply Kd.S_drew)); exact HO_8.out) hg hat); replace HO_9 := zM (Kd.R_after (ok := (fun _ => True)) (by (with_reducible repeat (first | apply Kd.R_alloc | apply Kd.R_drewN | apply Kd.R_drew)); exact Kd.R_mono HO_9.out (fun _ hk => ⟨trivial, hk⟩)) hg hat); replace BK501 := zM (bc (g := gb501) (o := .cells #[.slice A0_0 l0_0.length c0_0, .slice A0_1 l0_1.length c0_1] 52 (0, 0)) (zK BK501.out) hg (Kd.R_ne HO_10.out BK501.out (by decide))); replace HB := zM (hb); have HO521 := zM (ho); clear HO_10; clear ho hb hg hat)); try go_wp2_with (first | ((with_reducible refine br (b := .append) (xs := #[.tmp 49, .tmp 51]) rfl ?_); at_builtin; refine Kd.R_append (Kd.int .i64) (w0 := w) w.heap.size rfl (.tmp 49) (.tmp 51) 25 3 (.int .i64 0) 8 rfl Tryz.underlying25 bq rfl (by decide) (by omega) u10 x10_1 x1_2 [.int .i64 x1_2] (fun k_ => some k_ ≠ (.slice (some ad508) t505.length co20 : Value).ownBlock) (fun _ => False) rfl rfl ?aP (fun _ hk => hk.elim) ?aF ?aO ?aB ?aS ?aL ?_; (case aP => exact rfl); (case aB => exact zB); (case aF => exact (fun k_ hk => Kd.fresh' (Kd.R_lt (zR HO_9.out)) k_ hk)); (case aO => exact (zR HO_10.out)); (case aS => exact (ai zB)); (case aL => have := LMc36.out; omega); intro v520 w37 ho hb hg hat; rw [← Ny519.out] at ho; replace HO_8 := zM (Kd.S_after (ok := (fun k_ => some k_ ≠ (.slice (some ad508) t505.length co20 : Value).ownBlock)) (by (with_reducible repeat (first | apply Kd.S_alloc | apply Kd.S_drewN | apply Kd.S_drew)); exact HO_8.out) hg hat); replace HO_9 := zM (Kd.R_after (ok := (fun _ => True)) (by (with_reducible repeat (first | apply Kd.R_alloc | apply Kd.R_drewN | apply Kd.R_drew)); exact Kd.R_mono HO_9.out (fun _ hk => ⟨trivial, hk⟩)) hg hat); replace BK501 := zM (bc (g := gb501) (o := .cells #[.slice A0_0 l0_0.length c0_0, .slice A0_1 l0_1.length c0_1] 52 (0, 0)) (zK BK501.out) hg (Kd.R_ne HO_10.out BK501.out (by decide))); replace HB := zM (hb); have HO521 := zM (ho); clear HO_10; clear ho hb hg hat)))
           go_roundg k2
           case measure => have := HK1.out; have := HK2.out; omega
           case rel => exact ⟨(x1_2), (y519), (by first | rfl | (simp; done) | (simp [*]; done)), H', ⟨by have := HK1.out; have := HK2.out; omega⟩, ⟨by (with_reducible repeat (first | apply Kd.S_alloc | apply Kd.S_drewN | apply Kd.S_drew)); exact HO_8.out⟩, ⟨by (with_reducible repeat (first | apply Kd.R_alloc | apply Kd.R_drewN | apply Kd.R_drew)); exact Kd.R_mono HO_9.out (fun _ hk => hk.2)⟩, ⟨zR HO521.out⟩, ⟨zK BK501.out⟩, ⟨zB⟩⟩
attribute [local go_sem] aX aT aU aM aV aN aW aQ
set_option linter.unusedVariables false
set_option linter.unusedSimpArgs false
def d4 : Nat → List Int → List Int → List Int → Int → Int → Option (Int)
 | 0, _, _, _, _, _ => none
 | k + 1, x0, x1, x9, x10, x11 => if x11 < x10 then (if 0 ≤ x11 then (if x11 < (x9.length : Int) then (if x11 ≥ (x1.length : Int) then (some 1) else (if x11 < (x1.length : Int) then ((eT (rd x9 x11) (rd x1 x11)).bind fun t277 => (if t277 = 0 then (d4 k x0 x1 x9 x10 (wrap64 (x11 + 1))) else (some t277))) else (none))) else (none)) else (none)) else (if (x0.length : Int) < (x1.length : Int) then (some (-1)) else (some 0))
def i6 (k : Nat) (l0 : List Int) (l1 : List Int) : Option (Int) := d4 k l0 l1 l0 (l0.length : Int) 0
theorem kQ (k : Nat) (A0 : Option Addr) (c0 : Nat) (l0 : List Int) (A1 : Option Addr) (c1 : Nat) (l1 : List Int) (r : Int) (w : World) (hr0 : Kd.C (Kd.int .i64) w A0 l0.length l0) (hc0 : l0.length ≤ c0) (hr1 : Kd.C (Kd.int .i64) w A1 l1.length l1) (hc1 : l1.length ≤ c1) (h : i6 k l0 l1 = some r) :
 Calls Tryz.prog 87 #[.slice A0 l0.length c0, .slice A1 l1.length c1] w fun e w' => e = .returned (.int .i64 r) ∧ Drawn0 w w' := by
 have HR0 := Aside0.mk hr0
 have HC0 := Aside0.mk hc0
 clear hr0 hc0
 have HR1 := Aside0.mk hr1
 have HC1 := Aside0.mk hc1
 clear hr1 hc1
 have H := h
 unfold i6 at H
 clear h
 have H' := Aside0.mk H
 clear H
 go_enter Tryz.func87, Tryz.ntmps87
 go_wp2
 go_loopg [11] k (fun kq v11 w' => ∃ (x11_1 : Int), v11 = .int .i64 x11_1 ∧ Aside0 (d4 kq l0 l1 l0 (l0.length : Int) x11_1 = some r) ∧ Aside0 (kq ≤ k) ∧ Drawn0 w w')
 case atStart => exact ⟨(0), (by first | rfl | (simp; done) | (simp [*]; done)), H', ⟨au _⟩, by repeat (first | exact Drawn0.refl _ | apply Drawn0.step)⟩
 case round =>
  clear H'
  try clear c1
  try clear p2
  obtain ⟨x11_1, rfl, HA, HK1, ⟨m1, rfl⟩⟩ := hrel
  cases gk with
  | zero => exact absurd HA.out (by simp [d4])
  | succ k1 =>
   have H := HA.out
   clear HA
   simp only [d4] at H
   by_cases c3 : x11_1 < (l0.length : Int)
   · rw [if_pos c3] at H
     have c3b0 := ag c3
     clear c3
     by_cases c4 : 0 ≤ x11_1
     case neg => rw [if_neg c4] at H; simp at H
     rw [if_pos c4] at H
     have c4b0 := ag c4
     clear c4
     by_cases c5 : x11_1 < (l0.length : Int)
     case neg => rw [if_neg c5] at H; simp at H
     rw [if_pos c5] at H
     have c5b0 := ag c5
     clear c5
     by_cases c6 : x11_1 ≥ (l1.length : Int)
     · rw [if_pos c6] at H
       have c6b0 : decide ((l1.length : Int) ≤ x11_1) = true := ag c6
       clear c6
       obtain rfl := ao H
       have p275 : 0 ≤ (x11_1 : Int) := ac zA
       have q275 : x11_1 < (l0.length : Int) := ac zA
       obtain ⟨ad275, e275, hx275_0⟩ := Kd.at_int HR0.out x11_1 p275 q275
       cases e275
       replace p275 := eq_true p275
       replace q275 := eq_true q275
       go_wp2
       go_ret
       exact ⟨by first | rfl | (simp; done) | (simp [*]; done), by repeat (first | exact Drawn0.refl _ | apply Drawn0.step)⟩
     · rw [if_neg c6] at H
       have c6b0 : decide ((l1.length : Int) ≤ x11_1) = false := ar c6
       clear c6
       by_cases c7 : x11_1 < (l1.length : Int)
       case neg => rw [if_neg c7] at H; simp at H
       rw [if_pos c7] at H
       have c7b0 := ag c7
       clear c7
       replace H := ax H
       obtain ⟨t277, A80, H⟩ := H
       have A8 := Aside0.mk A80
       clear A80
       by_cases c9 : t277 = 0
       · rw [if_pos c9] at H
         have c9b0 : (t277 == 0) = true := beq_iff_eq.mpr c9
         have c9b1 : (t277 != 0) = false := bne_eq_false_iff_eq.mpr c9
         clear c9
         have H' := Aside0.mk H
         clear H
         have p275 : 0 ≤ (x11_1 : Int) := ac zA
         have q275 : x11_1 < (l0.length : Int) := ac zA
         obtain ⟨ad275, e275, hx275_0⟩ := Kd.at_int HR0.out x11_1 p275 q275
         cases e275
         replace p275 := eq_true p275
         replace q275 := eq_true q275
         have p276 : 0 ≤ (x11_1 : Int) := ac zA
         have q276 : x11_1 < (l1.length : Int) := ac zA
         obtain ⟨ad276, e276, hx276_0⟩ := Kd.at_int HR1.out x11_1 p276 q276
         cases e276
         replace p276 := eq_true p276
         replace q276 := eq_true q276
         go_wp2_with (first | ((with_reducible refine ay (f := 105) rfl ?_); refine zc 26 Tryz.func105 #[.int .i64 (rd l0 x11_1), .int .i64 (rd l1 x11_1)] ?_; (with_reducible refine (iC (rd l0 x11_1) (rd l1 x11_1) t277 _ A8.out).mono ?_); rintro e w' ⟨rfl, ⟨nd, rfl⟩⟩; refine ⟨_, rfl, ?_⟩))
         go_roundg k1
         case measure => have := HK1.out; omega
         case rel => exact ⟨(wrap64 (x11_1 + 1)), (by first | rfl | (simp; done) | (simp [*]; done)), H', ⟨by have := HK1.out; omega⟩, by repeat (first | exact Drawn0.refl _ | apply Drawn0.step)⟩
       · rw [if_neg c9] at H
         have c9b0 : (t277 == 0) = false := beq_eq_false_iff_ne.mpr c9
         have c9b1 : (t277 != 0) = true := bne_iff_ne.mpr c9
         obtain rfl := ao H
         have p275 : 0 ≤ (x11_1 : Int) := ac zA
         have q275 : x11_1 < (l0.length : Int) := ac zA
         obtain ⟨ad275, e275, hx275_0⟩ := Kd.at_int HR0.out x11_1 p275 q275
         cases e275
         replace p275 := eq_true p275
         replace q275 := eq_true q275
         have p276 : 0 ≤ (x11_1 : Int) := ac zA
         have q276 : x11_1 < (l1.length : Int) := ac zA
         obtain ⟨ad276, e276, hx276_0⟩ := Kd.at_int HR1.out x11_1 p276 q276
         cases e276
         replace p276 := eq_true p276
         replace q276 := eq_true q276
         go_wp2_with (first | ((with_reducible refine ay (f := 105) rfl ?_); refine zc 26 Tryz.func105 #[.int .i64 (rd l0 x11_1), .int .i64 (rd l1 x11_1)] ?_; (with_reducible refine (iC (rd l0 x11_1) (rd l1 x11_1) t277 _ A8.out).mono ?_); rintro e w' ⟨rfl, ⟨nd, rfl⟩⟩; refine ⟨_, rfl, ?_⟩))
         go_ret
         exact ⟨by first | rfl | (simp; done) | (simp [*]; done), by repeat (first | exact Drawn0.refl _ | apply Drawn0.step)⟩
   · rw [if_neg c3] at H
     have c3b0 : decide (x11_1 < (l0.length : Int)) = false := ar c3
     clear c3
     by_cases c10 : (l0.length : Int) < (l1.length : Int)
     · rw [if_pos c10] at H
       have c10b0 := ag c10
       have c10b1 : decide (l0.length < l1.length) = true := ag (Int.ofNat_lt.mp c10)
       clear c10
       obtain rfl := ao H
       go_wp2
       go_ret
       exact ⟨by first | rfl | (simp; done) | (simp [*]; done), by repeat (first | exact Drawn0.refl _ | apply Drawn0.step)⟩
     · rw [if_neg c10] at H
       have c10b0 : decide ((l0.length : Int) < (l1.length : Int)) = false := ar c10
       have c10b1 : decide (l0.length < l1.length) = false := ar (fun h => c10 (Int.ofNat_lt.mpr h))
       clear c10
       obtain rfl := ao H
       go_wp2
       go_ret
       exact ⟨by first | rfl | (simp; done) | (simp [*]; done), by repeat (first | exact Drawn0.refl _ | apply Drawn0.step)⟩
def cU (a b : Int) : Int := if a < b then -1 else if a > b then 1 else 0
theorem mA (a b : Int) : eT a b = some (cU a b) := by
 unfold eT gN cU
 simp only [Option.bind_some, bne_self_eq_false, Bool.false_eq_true, if_false]
 split
 · rfl
 · split <;> rfl
def bH : List Int → List Int → Int
 | [], [] => 0
 | [], _ :: _ => -1
 | _ :: _, [] => 1
 | a :: x, b :: y => if cU a b = 0 then bH x y else cU a b
theorem m4 {m n : Nat} (h : m < n) (hn : n ≤ 9223372036854775807) : wrap64 ((m : Int) + 1) = ((m + 1 : Nat) : Int) := by unfold wrap64; omega
theorem ow (l0 l1 : List Int) (hl : Aside0 (l0.length ≤ 9223372036854775807)) (d : Nat) : ∀ (k m : Nat), l0.length - m = d → m ≤ l0.length → m ≤ l1.length → d < k →
  d4 k l0 l1 l0 (l0.length : Int) (m : Int) = some (bH (l0.drop m) (l1.drop m)) := by
 induction d with
 | zero =>
  intro k m h0 h1 h2 hk
  obtain ⟨k, rfl⟩ : ∃ q, k = q + 1 := ⟨k - 1, by omega⟩
  have e : m = l0.length := by omega
  subst e
  rw [d4, if_neg (by omega), List.drop_length]
  by_cases h : l0.length < l1.length
  · rw [if_pos (by omega), List.drop_eq_getElem_cons h]; rfl
  · have e3 : l1.drop l0.length = [] := List.drop_eq_nil_of_le (by omega)
    rw [if_neg (by omega), e3]; rfl
 | succ d ih =>
  intro k m h0 h1 h2 hk
  obtain ⟨k, rfl⟩ : ∃ q, k = q + 1 := ⟨k - 1, by omega⟩
  have hm : m < l0.length := by omega
  rw [d4, if_pos (by omega), if_pos (by omega), if_pos (by omega)]
  by_cases h : m < l1.length
  · rw [if_neg (by omega), if_pos (by omega), mA, Option.bind_some]
    have e0 : rd l0 m = l0[m] := by simp [rd, List.getD_eq_getElem?_getD, List.getElem?_eq_getElem hm]
    have e1 : rd l1 m = l1[m] := by simp [rd, List.getD_eq_getElem?_getD, List.getElem?_eq_getElem h]
    rw [e0, e1, List.drop_eq_getElem_cons hm, List.drop_eq_getElem_cons h, bH]
    split
    · rw [m4 hm hl.out]
      exact ih k (m + 1) (by omega) (by omega) (by omega) (by omega)
    · rfl
  · have e3 : l1.drop m = [] := List.drop_eq_nil_of_le (by omega)
    rw [if_pos (by omega), List.drop_eq_getElem_cons hm, e3]; rfl
theorem kR (l0 l1 : List Int) (hl : l0.length ≤ 9223372036854775807) (k : Nat) (hk : l0.length < k) : i6 k l0 l1 = some (bH l0 l1) :=
 ow l0 l1 ⟨hl⟩ l0.length k 0 (by omega) (Nat.zero_le _) (Nat.zero_le _) hk
def fM (a b : S69) : Int := if cU a.f0 b.f0 = 0 then cU a.f1 b.f1 else cU a.f0 b.f0
theorem sC (a b : S69) (k : Nat) (hk : 3 ≤ k) : fC k a.f0 a.f1 b.f0 b.f1 = some (fM a b) := by
 obtain ⟨k, rfl⟩ : ∃ q, k = q + 3 := ⟨k - 3, by omega⟩
 unfold fC gO
 simp only [mA, Option.bind_some]
 unfold fM
 generalize cU a.f0 b.f0 = x
 generalize cU a.f1 b.f1 = y
 have w1 : wrap64 (0 + 1) = 1 := by unfold wrap64; omega
 have w2 : wrap64 (1 + 1) = 2 := by unfold wrap64; omega
 have r0 : rd [x, y] 0 = x := rfl
 have r1 : rd [x, y] 1 = y := rfl
 have hn : (([x, y] : List Int).length : Int) = 2 := rfl
 rw [hn, et, if_pos (by omega), if_pos (by omega), hn, if_pos (by omega), r0, w1]
 by_cases h : x = 0
 · rw [if_pos h, if_pos h, et, if_pos (by omega), if_pos (by omega), hn, if_pos (by omega), r1, w2]
   by_cases h2 : y = 0
   · rw [if_pos h2, et, if_neg (by omega), h2]; rfl
   · rw [if_neg h2]; rfl
 · rw [if_neg h, if_neg h]; rfl
def ch (c : Nat → Int) : Nat → Nat → Nat → Nat
 | 0, i, _ => i
 | k + 1, i, j => if i < j then if c ((i + j) / 2) < 0 then ch c k ((i + j) / 2 + 1) j else ch c k i ((i + j) / 2) else i
theorem sO (c : Nat → Int) (k : Nat) : ∀ (i j : Nat), i ≤ j → ch c k i j ≤ j := by
 induction k with
 | zero => intro i j h; exact h
 | succ k ih =>
  intro i j h
  rw [ch]
  split
  · split
    · exact ih _ _ (by omega)
    · have := ih i ((i + j) / 2) (by omega); omega
  · exact h
theorem sP (c : Nat → Int) (k i : Nat) : ch c k i i = i := by
 cases k with
 | zero => rfl
 | succ k => rw [ch, if_neg (by omega)]
end Go.Proofs.YtadjbmcfgjmhkaaGreat.P
