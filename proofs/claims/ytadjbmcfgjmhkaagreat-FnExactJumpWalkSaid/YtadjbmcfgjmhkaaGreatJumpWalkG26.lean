import Derived.Test.YtadjbmcfgjmhkaaGreatJumpWalkG25
namespace Go.Proofs.YtadjbmcfgjmhkaaGreat.P
open Go.RowKit YtadjbmcfgjmhkaaGreatW.PrintWords YtadjbmcfgjmhkaaGreatW.PrintLast YtadjbmcfgjmhkaaGreatW.PrintMore
attribute [local go_sem] aY aU aV aN aW aQ aX aT
set_option maxRecDepth 100000
set_option maxHeartbeats 8000000
def fF (k : Nat) (a0_0 : Int) (l0_1 : List (S69)) (l1 : List Int) (l2 : List Int) : Option ((List (List Int)) × Bool) := (gA k a0_0 l0_1 l1 l2).bind fun t543 => (if t543 = true then ((gC k a0_0 l0_1 (l1.length : Int)).bind fun bt544 => ((eh k bt544.1 bt544.2.1 l1 l2).bind fun bt552 => (some (bt552.1, bt552.2)))) else (some (([] : List (List Int)), false)))
theorem lT (k : Nat) (a0_0 : Int) (A0_1 : Option Addr) (c0_1 : Nat) (l0_1 : List (S69)) (A1 : Option Addr) (c1 : Nat) (l1 : List Int) (A2 : Option Addr) (c2 : Nat) (l2 : List Int) (r1 : List (List Int)) (r2 : Bool) (w : World) (hr0_1 : Kd.C k69 w A0_1 l0_1.length l0_1) (hc0_1 : l0_1.length ≤ c0_1) (hr1 : Kd.C (Kd.int .i64) w A1 l1.length l1) (hc1 : l1.length ≤ c1) (hr2 : Kd.C (Kd.int .i64) w A2 l2.length l2) (hc2 : l2.length ≤ c2) (h : fF k a0_0 l0_1 l1 l2 = some (r1, r2)) :
 Calls Tryz.prog 12 #[.agg #[.int .i64 a0_0, .slice A0_1 l0_1.length c0_1], .slice A1 l1.length c1, .slice A2 l2.length c2] w fun e w' => ∃ v0_ : Value, e = .returned (.tuple #[v0_, .bool r2]) ∧ Kd.S (Kd.slice 3 (Kd.int .i64)) 25 w' w.heap.size (fun _ => True) v0_ r1 ∧ Below w.heap.size w w' := by
 have hu30 := Tryz.underlying30
 have hu52 := Tryz.underlying52
 have HR0_1 := Aside0.mk hr0_1
 have HC0_1 := Aside0.mk hc0_1
 clear hr0_1 hc0_1
 have HR1 := Aside0.mk hr1
 have HC1 := Aside0.mk hc1
 clear hr1 hc1
 have HR2 := Aside0.mk hr2
 have HC2 := Aside0.mk hc2
 clear hr2 hc2
 have HB := zM (Below.refl w.heap.size w)
 have H := h
 unfold fF at H
 clear h
 replace H := ay H
 obtain ⟨t543, A40, H⟩ := H
 try dsimp only at H
 have A4 := Aside0.mk A40
 clear A40
 by_cases c5 : t543 = true
 · subst c5
   rw [if_pos rfl] at H
   replace H := ay H
   obtain ⟨⟨t544, t547, t550⟩, A60, H⟩ := H
   try dsimp only at H
   have A6 := Aside0.mk A60
   clear A60
   replace H := ay H
   obtain ⟨⟨t552, t555⟩, A70, H⟩ := H
   try dsimp only at H
   have A7 := Aside0.mk A70
   clear A70
   simp only [Option.some.injEq, Prod.mk.injEq] at H
   obtain ⟨rfl, rfl⟩ := H
   go_enter Tryz.func12, Tryz.ntmps12
   go_wp2_with (first | ((with_reducible refine ap (N := 3) rfl ?_); refine zb (w := w) 3 #[.int .i64 a0_0, .slice A0_1 l0_1.length c0_1] 30 zB ?_; clear HB; intro gb542 w8 HB BK542 GW542; have GE542 := GW542; have hcz9_0 := zy BK542 0; have hcz9_1 := zy BK542 1; have hfz9_0 := ae BK542.out 0; have hfz9_1 := ae BK542.out 1) | ((with_reducible refine ax (f := 36) rfl ?_); refine zc 13 Tryz.func36 #[.agg #[.int .i64 a0_0, .slice A0_1 l0_1.length c0_1], .slice A1 l1.length c1, .slice A2 l2.length c2] ?_; (with_reducible refine (lO k a0_0 _ _ l0_1 _ _ l1 _ _ l2 true _ ?side1 ?side2 ?side3 ?side4 ?side5 ?side6 A4.out).mono ?_); (case side1 => exact zC (Kd.C_below HR0_1.out HB.out)); (case side2 => exact HC0_1.out); (case side3 => exact zC (Kd.C_below HR1.out HB.out)); (case side4 => exact HC1.out); (case side5 => exact zC (Kd.C_below HR2.out HB.out)); (case side6 => exact HC2.out); rintro e w10 ⟨rfl, hb⟩; refine ⟨_, rfl, ?_⟩; replace BK542 := zJ BK542 hb; replace HB := zM (ah zB hb); (try clear hb); have hcz11_0 := zy BK542 0; have hcz11_1 := zy BK542 1; have hfz11_0 := ae BK542.out 0; have hfz11_1 := ae BK542.out 1) | ((with_reducible refine ax (f := 37) rfl ?_); refine zc 19 Tryz.func37 #[.agg #[.int .i64 a0_0, .slice A0_1 l0_1.length c0_1], .int .i64 (l1.length : Int)] ?_; (with_reducible refine (qH k a0_0 _ _ l0_1 (l1.length : Int) t544 t547 t550 _ ?side1 ?side2 A6.out).mono ?_); (case side1 => exact zC (Kd.C_below HR0_1.out HB.out)); (case side2 => exact HC0_1.out); rintro e w12 ⟨v545, v548, rfl, ho0, ho1, hb⟩; refine ⟨_, rfl, ?_⟩; have HO546 := zM (Kd.S_lower ho0 (ai zB)); have HO549 := zM (Kd.R_lower ho1 (ai zB)); replace BK542 := zJ BK542 hb; replace HB := zM (ah zB hb); (try clear hb); (try clear ho0); (try clear ho1)) | ((with_reducible refine ap (N := 8) rfl ?_); refine ze 8 #[.slice none 0 0, .slice none 0 0] 52 ?_; intro gb551 hg w13 hbox hb; replace HO546 := zM (Kd.S_below (by (with_reducible repeat (first | apply Kd.S_alloc | apply Kd.S_drewN | apply Kd.S_drew)); exact HO546.out) hb); replace HO549 := zM (Kd.R_below (zR HO549.out) hb); have BK551 := zM (hbox); have GW551 := zM ((by rw [hg]; exact (ai zB) : w.heap.size ≤ gb551)); have GE551 := zM ((by rw [hg]; exact (ai zB) : w.heap.size ≤ gb551)); replace HB := zM (ah zB hb); have NB542_551 := zM ((by rw [hg]; exact Nat.ne_of_lt (aA (g := gb542) (o := .cells #[.int .i64 a0_0, .slice A0_1 l0_1.length c0_1] 30 (0, 0)) (zK BK542.out)) : gb542 ≠ gb551)); have NB551_542 := zM ((by rw [hg]; exact Nat.ne_of_gt (aA (g := gb542) (o := .cells #[.int .i64 a0_0, .slice A0_1 l0_1.length c0_1] 30 (0, 0)) (zK BK542.out)) : gb551 ≠ gb542)); replace BK542 := zJ BK542 hb; clear hb hbox hg; obtain ⟨Ao14, co14, eo14⟩ := Kd.S_slice HO546.out; subst eo14; have hnb15 := NB551_542.out; have hnc15 := NB542_551.out; have hcz16_0 := zy BK551 0; have hcz16_1 := zy BK551 1; have hfz16_0 := ae BK551.out 0; have hfz16_1 := ae BK551.out 1; obtain ⟨Ao17, co17, eo17⟩ := Kd.R_slice HO549.out; subst eo17) | ((with_reducible refine ax (f := 38) rfl ?_); refine zc 25 Tryz.func38 #[.agg #[.slice Ao14 t544.length co14, .slice Ao17 t547.length co17], .slice A1 l1.length c1, .slice A2 l2.length c2] ?_; (with_reducible refine (qx k _ _ t544 _ _ t547 _ _ l1 _ _ l2 t552 t555 _ ?side1 ?side2 ?side3 ?side4 ?side5 ?side6 ?side7 ?side8 A7.out).mono ?_); (case side1 => refine (Kd.S_reads' (e := 25) (base := w.heap.size) (ok := fun k_ => True) (n := t544.length) (c := co14) ?_).2.2; exact (by (with_reducible repeat (first | apply Kd.S_alloc | apply Kd.S_drewN | apply Kd.S_drew)); exact (Kd.S_mono (Kd.S_far (p := ⟨gb551, 1, none⟩) (Kd.S_far (p := ⟨gb551, 0, none⟩) (Kd.S_types HO546.out BK551.out (by decide)) (fun _ hk => hk.2) (.slice Ao14 t544.length co14)) (fun _ hk => hk.2) (.slice Ao17 t547.length co17)) (fun _ h_ => h_.1)))); (case side2 => exact (Kd.S_reads' HO546.out).2.1); (case side3 => refine (Kd.R_reads' (e := 69) (base := w.heap.size) (ok := fun k_ => True) (n := t547.length) (c := co17) ?_).2.2; exact (by (with_reducible repeat (first | apply Kd.R_alloc | apply Kd.R_drewN | apply Kd.R_drew)); exact (Kd.R_mono (Kd.R_far (p := ⟨gb551, 1, none⟩) (Kd.R_far (p := ⟨gb551, 0, none⟩) (Kd.R_types HO549.out BK551.out (by decide)) (fun _ hk => hk.2) (.slice Ao14 t544.length co14)) (fun _ hk => hk.2) (.slice Ao17 t547.length co17)) (fun _ h_ => h_.1)))); (case side4 => exact (Kd.R_reads' HO549.out).2.1); (case side5 => exact Kd.C_below HR1.out zB); (case side6 => exact HC1.out); (case side7 => exact Kd.C_below HR2.out zB); (case side8 => exact HC2.out); rintro e w18 ⟨v553, rfl, ho0, hb⟩; refine ⟨_, rfl, ?_⟩; replace HO549 := zM (Kd.R_below (by (with_reducible repeat (first | apply Kd.R_alloc | apply Kd.R_drewN | apply Kd.R_drew)); exact (Kd.R_mono (Kd.R_far (p := ⟨gb551, 1, none⟩) (Kd.R_far (p := ⟨gb551, 0, none⟩) (Kd.R_types HO549.out BK551.out (by decide)) (fun _ hk => hk.2) (.slice Ao14 t544.length co14)) (fun _ hk => hk.2) (.slice Ao17 t547.length co17)) (fun _ h_ => h_.1))) hb); have HO554 := zM (Kd.S_lower (Kd.S_new' ho0 (Kd.S_lt (by (with_reducible repeat (first | apply Kd.S_alloc | apply Kd.S_drewN | apply Kd.S_drew)); exact (Kd.S_mono (Kd.S_far (p := ⟨gb551, 1, none⟩) (Kd.S_far (p := ⟨gb551, 0, none⟩) (Kd.S_types HO546.out BK551.out (by decide)) (fun _ hk => hk.2) (.slice Ao14 t544.length co14)) (fun _ hk => hk.2) (.slice Ao17 t547.length co17)) (fun _ h_ => h_.1))))) (ai zB)); replace HO546 := zM (Kd.S_elder' (by (with_reducible repeat (first | apply Kd.S_alloc | apply Kd.S_drewN | apply Kd.S_drew)); exact (Kd.S_mono (Kd.S_far (p := ⟨gb551, 1, none⟩) (Kd.S_far (p := ⟨gb551, 0, none⟩) (Kd.S_types HO546.out BK551.out (by decide)) (fun _ hk => hk.2) (.slice Ao14 t544.length co14)) (fun _ hk => hk.2) (.slice Ao17 t547.length co17)) (fun _ h_ => h_.1))) (Kd.S_base ho0) hb); replace BK542 := zM (bn (g := gb542) (o := .cells #[.int .i64 a0_0, .slice A0_1 l0_1.length c0_1] 30 (0, 0)) (by (with_reducible repeat (first | refine aw ?_ _ | refine aq ?_ | refine av ?_ _)); refine bx ?_ NB542_551.out _; (with_reducible repeat (first | refine aw ?_ _ | refine aq ?_ | refine av ?_ _)); refine bx ?_ NB542_551.out _; (with_reducible repeat (first | refine aw ?_ _ | refine aq ?_ | refine av ?_ _)); exact BK542.out) hb); replace BK551 := zM (bn (g := gb551) (o := .cells #[.slice Ao14 t544.length co14, .slice Ao17 t547.length co17] 52 (0, 0)) (by (with_reducible repeat (first | refine aw ?_ _ | refine aq ?_ | refine av ?_ _)); refine aE (cs := #[.slice Ao14 t544.length co14, .slice none 0 0]) ?_ 1 _ rfl; (with_reducible repeat (first | refine aw ?_ _ | refine aq ?_ | refine av ?_ _)); refine aE (cs := #[.slice none 0 0, .slice none 0 0]) ?_ 0 _ rfl; (with_reducible repeat (first | refine aw ?_ _ | refine aq ?_ | refine av ?_ _)); exact BK551.out) hb); replace HB := zM (ah zB hb); (try clear hb); (try clear ho0)))
   go_ret2
   exact ⟨_, by first | rfl | (simp [al, ak] <;> rfl) | (simp [*, al, ak] <;> rfl), by (with_reducible repeat (first | apply Kd.S_alloc | apply Kd.S_drewN | apply Kd.S_drew)); exact Kd.S_mono HO554.out (fun _ hk => trivial), zB⟩
 · replace c5 := Bool.eq_false_iff.mpr c5
   subst c5
   rw [if_neg (show ¬ (false = true) by decide)] at H
   simp only [Option.some.injEq, Prod.mk.injEq] at H
   obtain ⟨rfl, rfl⟩ := H
   go_enter Tryz.func12, Tryz.ntmps12
   go_wp2_with (first | ((with_reducible refine ap (N := 3) rfl ?_); refine zb (w := w) 3 #[.int .i64 a0_0, .slice A0_1 l0_1.length c0_1] 30 zB ?_; clear HB; intro gb542 w19 HB BK542 GW542; have GE542 := GW542; have hcz20_0 := zy BK542 0; have hcz20_1 := zy BK542 1; have hfz20_0 := ae BK542.out 0; have hfz20_1 := ae BK542.out 1) | ((with_reducible refine ax (f := 36) rfl ?_); refine zc 13 Tryz.func36 #[.agg #[.int .i64 a0_0, .slice A0_1 l0_1.length c0_1], .slice A1 l1.length c1, .slice A2 l2.length c2] ?_; (with_reducible refine (lO k a0_0 _ _ l0_1 _ _ l1 _ _ l2 false _ ?side1 ?side2 ?side3 ?side4 ?side5 ?side6 A4.out).mono ?_); (case side1 => exact zC (Kd.C_below HR0_1.out HB.out)); (case side2 => exact HC0_1.out); (case side3 => exact zC (Kd.C_below HR1.out HB.out)); (case side4 => exact HC1.out); (case side5 => exact zC (Kd.C_below HR2.out HB.out)); (case side6 => exact HC2.out); rintro e w21 ⟨rfl, hb⟩; refine ⟨_, rfl, ?_⟩; replace BK542 := zJ BK542 hb; replace HB := zM (ah zB hb); (try clear hb); (try clear hi)))
   go_ret2
   exact ⟨_, by first | rfl | (simp [al, ak] <;> rfl) | (simp [*, al, ak] <;> rfl), by first | exact Kd.S_nil _ _ _ _ _ | exact Kd.N_nil _ _ _ _ _ | exact Kd.V_nil _ _ _ _ _ | exact Kd.Q_nil _ _ _ _ _ | exact Kd.R_nil _ _ _ _ _, zB⟩
attribute [local go_sem] aY aU aV aN aW aQ aX aT
def cP : Nat → List Int → Int → Int → Option (Int × List Int)
 | 0, _, _, _ => none
 | k + 1, x0, x1, x5 => if x5 < (x0.length : Int) then (if 0 ≤ x5 then (cP k (x0.set (x5 : Int).toNat x1) (wrap64 (x1 + 1)) (wrap64 (x5 + 1))) else (none)) else (some (x1, x0))
def dw (k : Nat) (l0 : List Int) (a1 : Int) : Option (Int × List Int) := cP k l0 a1 0
theorem jm (k : Nat) (P0_ : Nat → Prop) (u9000_ : Value) (l0 : List Int) (a1 : Int) (r1 : Int) (r2 : List Int) (w0 w : World) (hB : Below w0.heap.size w0 w) (ho0 : Kd.R (Kd.int .i64) 3 w w0.heap.size P0_ u9000_ l0) (h : dw k l0 a1 = some (r1, r2)) :
 Calls Tryz.prog 17 #[u9000_, .int .i64 a1] w fun e w' => e = .returned (.int .i64 r1) ∧ Kd.R (Kd.int .i64) 3 w' w0.heap.size (fun k_ => (P0_ k_ ∨ w.heap.size ≤ k_)) u9000_ r2 ∧ Below w0.heap.size w0 w' ∧ Kept w w' (fun k_ => P0_ k_) := by
 have HO0 := zM (show Kd.R (Kd.int .i64) 3 w w0.heap.size (fun k_ => (P0_ k_ ∨ w.heap.size ≤ k_)) u9000_ l0 from Kd.R_mono ho0 (fun k_ hk => (.inl hk)))
 have HK := zM (Kept.refl w (fun k_ => P0_ k_))
 have HW0 := Aside0.mk hB.size
 have HB := Aside0.mk hB
 clear hB
 have H := h
 unfold dw at H
 clear h
 have H' := Aside0.mk H
 clear H
 go_enter Tryz.func17, Tryz.ntmps17
 go_wp2
 go_loopg [1, 5] k (fun kq v1 v5 w' => ∃ (x0_1 : List Int) (x1_1 : Int) (x5_1 : Int), v1 = .int .i64 x1_1 ∧ v5 = .int .i64 x5_1 ∧ Aside0 (cP kq x0_1 x1_1 x5_1 = some (r1, r2)) ∧ Aside0 (kq ≤ k) ∧ Aside0 (Kd.R (Kd.int .i64) 3 w' w0.heap.size (fun k_ => (P0_ k_ ∨ w.heap.size ≤ k_)) u9000_ x0_1) ∧ Aside0 (Kept w w' (fun k_ => P0_ k_)) ∧ Aside0 (Below w0.heap.size w0 w'))
 case atStart => exact ⟨(l0), (a1), (0), (by first | rfl | (simp; done) | (simp [*]; done)), (by first | rfl | (simp; done) | (simp [*]; done)), H', ⟨au _⟩, ⟨zR HO0.out⟩, ⟨by repeat (first | (with_reducible first | exact HK.out | apply Kept.alloc | apply Kept.drewN | apply Kept.drew) | exact HK.out)⟩, ⟨zB⟩⟩
 case round =>
  clear H'
  try clear c1
  try clear p2
  obtain ⟨x0_1, x1_1, x5_1, rfl, rfl, HA, HK1, HO_0, HK, HB⟩ := hrel
  cases gk with
  | zero => exact absurd HA.out (by simp [cP])
  | succ k1 =>
   have H := HA.out
   clear HA
   simp only [cP] at H
   by_cases c3 : x5_1 < (x0_1.length : Int)
   · rw [if_pos c3] at H
     have c3b0 := ag c3
     clear c3
     by_cases c4 : 0 ≤ x5_1
     case neg => rw [if_neg c4] at H; simp at H
     rw [if_pos c4] at H
     have c4b0 := ag c4
     clear c4
     obtain ⟨y135, hy135⟩ : ∃ y_ : List Int, y_ = (x0_1.set (x5_1 : Int).toNat x1_1) := ⟨_, rfl⟩
     replace H : (cP k1 y135 (wrap64 (x1_1 + 1)) (wrap64 (x5_1 + 1))) = some (r1, r2) := by first | (rw [hy135]; with_reducible exact H) | (have H2_ := (Option.bind_some _ _).symm.trans H; rw [hy135]; with_reducible exact H2_) | (have H2_ := (Option.bind_some _ _).symm.trans H; with_reducible exact H2_) | with_reducible exact H | (rw [hy135]; exact H) | exact H
     have Ny135 := Aside0.mk hy135
     clear hy135
     have H' := Aside0.mk H
     clear H
     obtain ⟨Ao6, co6, eo6⟩ := Kd.R_slice HO_0.out
     subst eo6
     have p5 : 0 ≤ (x5_1 : Int) := ac zA
     have q5 : (x5_1 : Int) < ((x0_1.length : Int) : Int) := ac zA
     obtain ⟨go5, co5, eo5, gb5, gl5, cl5, HG5⟩ := Kd.R_form HO_0.out (by omega)
     (first | cases eo5 | (injection eo5 with ea_ en_ ec_; (first | subst ea_ | (injection ea_ with ea_; subst ea_)); subst ec_; clear en_))
     have GB5 := Aside0.mk gb5
     have GG5 := Aside0.mk HG5
     clear gb5 gl5 HG5
     have HMgo5 := zM (show (P0_ go5 ∨ w.heap.size ≤ go5) from (HO_0.out.1 _ rfl))
     obtain ⟨hx5_0, hf5_0⟩ := Kd.R_celln 0 HO_0.out (x5_1 : Int) p5 q5
     replace p5 := eq_true p5
     replace q5 := eq_true q5
     have HP7 := Kd.R_putg HO_0.out (x5_1 : Int) x1_1
     go_wp2_with (first | ((with_reducible refine cG (t := 3) (p := 15) rfl ?_); refine cw (t := 3) (p := 15) (v := ?vo_w8) (w1 := (wr.setCell ⟨go5, (x5_1 : Int).toNat, none⟩ (.int .i64 x1_1))) ?hg ?ho ?hn ?hr ?_; (case ho => rfl); (case hg => rfl); (case hn => rfl); (case hr => first | (go_simp; done) | (go_simp; rfl)); intro w8 hw; have hg : wr.grownBy w8 (some go5) := (by rw [hw]; exact HP7.2); have hp_ : Kd.R (Kd.int .i64) 3 w8 w0.heap.size (fun k_ => (P0_ k_ ∨ w.heap.size ≤ k_)) (.slice (some ⟨go5, 0, none⟩) x0_1.length co6) y135 := (by rw [hw, Ny135.out]; exact HP7.1); clear HP7; replace HB := zM ((by rw [hw]; exact bz (HB.out) GB5.out : Below w0.heap.size w0 w8)); replace HK := zM (Kept.of_grown (S := (fun k_ => P0_ k_)) hg (by repeat (first | (with_reducible first | exact HK.out | apply Kept.alloc | apply Kept.drewN | apply Kept.drew) | exact HK.out)) (fun k_ e_ => (HO_0.out.1 k_ e_))); replace HO_0 := zM (hp_); clear hg hw hp_))
     go_roundg k1
     case measure => have := HK1.out; omega
     case rel => exact ⟨(y135), (wrap64 (x1_1 + 1)), (wrap64 (x5_1 + 1)), (by first | rfl | (simp; done) | (simp [*]; done)), (by first | rfl | (simp; done) | (simp [*]; done)), H', ⟨by have := HK1.out; omega⟩, ⟨zR HO_0.out⟩, ⟨by repeat (first | (with_reducible first | exact HK.out | apply Kept.alloc | apply Kept.drewN | apply Kept.drew) | exact HK.out)⟩, ⟨zB⟩⟩
   · rw [if_neg c3] at H
     have c3b0 : decide (x5_1 < (x0_1.length : Int)) = false := ar c3
     clear c3
     simp only [Option.some.injEq, Prod.mk.injEq] at H
     obtain ⟨rfl, rfl⟩ := H
     obtain ⟨Ao9, co9, eo9⟩ := Kd.R_slice HO_0.out
     subst eo9
     go_wp2
     go_ret
     exact ⟨by first | rfl | (simp [al, ak] <;> rfl) | (simp [*, al, ak] <;> rfl), by (with_reducible repeat (first | apply Kd.R_alloc | apply Kd.R_drewN | apply Kd.R_drew)); exact HO_0.out, by repeat (first | (with_reducible first | exact HB.out | apply bo | apply bO | apply aC) | exact HB.out), by repeat (first | (with_reducible first | exact HK.out | apply Kept.alloc | apply Kept.drewN | apply Kept.drew) | exact HK.out)⟩
def cy : Nat → Int → List Int
 | 0, _ => []
 | n + 1, k => k :: cy n (wrap64 (k + 1))
def cH : Nat → Int → Int
 | 0, k => k
 | n + 1, k => cH n (wrap64 (k + 1))
theorem pg (d : Nat) : ∀ (done rest : List Int) (c : Int), rest.length = d → done.length + d ≤ 9223372036854775807 →
  ∃ k, cP k (done ++ rest) c (done.length : Int) = some (cH d c, done ++ cy d c) := by
 induction d with
 | zero =>
  intro done rest c h0 h1
  have : rest = [] := List.eq_nil_of_length_eq_zero h0
  subst this
  refine ⟨1, ?_⟩
  rw [cP, if_neg (by simp)]
  rfl
 | succ d ih =>
  intro done rest c h0 h1
  obtain ⟨x, t, rfl⟩ : ∃ x t, rest = x :: t := by
   cases rest with
   | nil => simp at h0
   | cons x t => exact ⟨x, t, rfl⟩
  have h2 : t.length = d := by simpa using h0
  obtain ⟨k, hk⟩ := ih (done ++ [c]) t (wrap64 (c + 1)) h2 (by rw [List.length_append, List.length_singleton]; omega)
  refine ⟨k + 1, ?_⟩
  have e : (done ++ x :: t).set ((done.length : Int)).toNat c = (done ++ [c]) ++ t := by
   rw [Int.toNat_natCast]
   simp
  have hw : wrap64 ((done.length : Int) + 1) = ((done ++ [c]).length : Int) := by
   rw [List.length_append, List.length_singleton]
   unfold wrap64
   omega
  rw [cP, if_pos (by simp; omega), if_pos (by omega), e, hw, hk]
  simp only [cy, cH, List.append_assoc, List.singleton_append]
theorem pf (l : List Int) (c : Int) (hl : l.length ≤ 9223372036854775807) : ∃ k, dw k l c = some (cH l.length c, cy l.length c) := by
 obtain ⟨k, hk⟩ := pg l.length [] l c rfl (by simpa using hl)
 exact ⟨k, by unfold dw; simpa only [List.nil_append, List.length_nil, Int.natCast_zero] using hk⟩
def bG : List (List Int) → Int → Int × List (List Int)
 | [], k => (k, [])
 | l :: t, k => ((bG t (cH l.length k)).1, cy l.length k :: (bG t (cH l.length k)).2)
def gp (l0 : List (List Int)) (a1 : Int) : Option (Int × List (List Int)) := some (bG l0 a1)
theorem od {α : Type} (done : List α) (l : List α) (m : Nat) (hd : done.length = m) (hm : m < l.length) (x : α) : (done ++ l.drop m).set m x = (done ++ [x]) ++ l.drop (m + 1) := by
 subst hd
 rw [List.drop_eq_getElem_cons hm, List.set_append_right _ _ (au _), Nat.sub_self, List.set_cons_zero, List.append_assoc, List.singleton_append]
set_option maxHeartbeats 2000000 in
theorem pC (P0_ : Nat → Prop) (u9000_ : Value) (l0 : List (List Int)) (a1 : Int) (r1 : Int) (r2 : List (List Int)) (w0 w : World) (hB : Below w0.heap.size w0 w) (ho0 : Kd.S (Kd.slice 3 (Kd.int .i64)) 25 w w0.heap.size P0_ u9000_ l0) (h : gp l0 a1 = some (r1, r2)) :
  Calls Tryz.prog 18 #[u9000_, .int .i64 a1] w fun e w' => e = .returned (.int .i64 r1) ∧ Kd.S (Kd.slice 3 (Kd.int .i64)) 25 w' w0.heap.size (fun k_ => (P0_ k_ ∨ w.heap.size ≤ k_)) u9000_ r2 ∧ Below w0.heap.size w0 w' ∧ Kept w w' (fun k_ => P0_ k_) := by
 have HO := Aside0.mk (show Kd.S (Kd.slice 3 (Kd.int .i64)) 25 w w0.heap.size (fun k_ => (P0_ k_ ∨ w.heap.size ≤ k_)) u9000_ l0 from Kd.S_mono ho0 (fun k_ hk => (.inl hk)))
 unfold gp at h
 have H' := Aside0.mk (ao h)
 obtain ⟨A, c, e0⟩ := Kd.S_slice ho0
 have HL := Aside0.mk (show l0.length ≤ 9223372036854775807 by
  obtain ⟨A', c', _, _, hc⟩ := Kd.S_reads ho0
  exact hc.2.1)
 have HB0 := Aside0.mk hB
 clear h hB ho0
 subst e0
 go_enter Tryz.func18, Tryz.ntmps18
 go_wp2
 go_loopg [5, 1, 6] (l0.length + 1) (fun kq v5 v1 v6 w' => ∃ (m : Nat) (kk : Int) (done : List (List Int)), v5 = .int .i64 m ∧ v1 = .int .i64 kk ∧ Aside0 (m ≤ l0.length) ∧ Aside0 (kq = l0.length - m + 1) ∧ Aside0 (done.length = m) ∧ Aside0 ((bG (l0.drop m) kk).1 = r1 ∧ done ++ (bG (l0.drop m) kk).2 = r2) ∧ Aside0 (Kd.S (Kd.slice 3 (Kd.int .i64)) 25 w' w0.heap.size (fun k_ => (P0_ k_ ∨ w.heap.size ≤ k_)) (.slice A l0.length c) (done ++ l0.drop m)) ∧ Aside0 (Below w0.heap.size w0 w') ∧ Aside0 (Kept w w' (fun k_ => P0_ k_)))
 case atStart => exact ⟨0, a1, [], rfl, rfl, ⟨Nat.zero_le _⟩, ⟨by omega⟩, ⟨rfl⟩, ⟨by rw [List.drop_zero, H'.out]; exact ⟨rfl, rfl⟩⟩, ⟨by rw [List.drop_zero]; exact HO.out⟩, HB0, ⟨Kept.refl _ _⟩⟩
 case round =>
  clear H' HO HB0
  obtain ⟨m, kk, done, rfl, rfl, HM, HK1, HD, HA, HO, HB, HK⟩ := hrel
  have HN := Aside0.mk (show (done ++ l0.drop m).length = l0.length by rw [List.length_append, List.length_drop, HD.out]; have := HM.out; omega)
  by_cases c1 : m < l0.length
  · have q1 : (m : Int) < (l0.length : Int) := by omega
    obtain ⟨g, cap, eg, gb, gl, HG⟩ := Kd.S_form HO.out (by rw [HN.out]; omega)
    rw [HN.out] at eg
    injection eg with eA _ ec
    subst eA; subst ec
    obtain ⟨oki, cs, hcl, hM, hcc, hoki, HH⟩ := Kd.S_lend HO.out ([] : List Int) (m : Int) (by omega) q1
    obtain ⟨v, rfl, hR⟩ := hM
    have hrow : (done ++ l0.drop m).getD (m : Int).toNat [] = l0[m] := by
     rw [Int.toNat_natCast, List.getD_eq_getElem?_getD, List.getElem?_append_right (by rw [HD.out]; exact au _), HD.out, Nat.sub_self, List.getElem?_drop, Nat.add_zero, List.getElem?_eq_getElem c1, Option.getD_some]
    rw [hrow] at hR
    have hx0 := hcc 0 _ rfl
    rw [Int.toNat_natCast, show (Kd.slice 3 (Kd.int .i64)).sz = 1 from rfl, Nat.mul_one, Nat.add_zero] at hx0
    have hll : (l0[m]).length ≤ 9223372036854775807 := by
     obtain ⟨A', c', _, _, hc⟩ := Kd.R_reads hR
     exact hc.2.1
    obtain ⟨kf, hf⟩ := pf l0[m] kk hll
    have HF := Aside0.mk hf
    have HRo := Aside0.mk hR
    have HHo := Aside0.mk HH
    have HOk := Aside0.mk hoki
    have HE := Aside0.mk (od done l0 m HD.out c1 (cy (l0[m]).length kk))
    have H2 : Aside0 ((bG (l0.drop (m + 1)) (cH (l0[m]).length kk)).1 = r1 ∧ (done ++ [cy (l0[m]).length kk]) ++ (bG (l0.drop (m + 1)) (cH (l0[m]).length kk)).2 = r2) := ⟨by
     have e_ := HA.out
     rw [List.drop_eq_getElem_cons c1] at e_
     simp only [bG] at e_
     rw [List.append_assoc, List.singleton_append]
     exact e_⟩
    obtain ⟨Av, cv, ev⟩ := Kd.R_slice hR
    subst ev
    generalize hk2 : cH (l0[m]).length kk = k2 at HF H2
    generalize hs2 : cy (l0[m]).length kk = s2 at HF H2 HE
    generalize l0[m] = row at HF HRo hx0 HHo
    clear HA hcc hcl gl HG gb hR HH hoki hf hk2 hs2 hrow hll
    have c1b : decide ((m : Int) < (l0.length : Int)) = true := ag q1
    have c1c : decide (m < l0.length) = true := ag c1
    have p1 : (0 : Int) ≤ (m : Int) := by omega
    have hw1 : (m : Int) + 1 ≤ 9223372036854775807 := by have := HL.out; omega
    replace p1 := eq_true p1
    replace q1 := eq_true q1
    clear c1
    go_wp2_with (go_at_call 17; refine (jm kf oki _ row kk _ _ w0 wr HB.out HRo.out HF.out).mono ?_; rintro e w2 ⟨rfl, hy, hb, hkp⟩; have HS := Aside0.mk (Kd.H_back (Kd.H_kept HHo.out hkp (fun _ _ hn => hn)) (x' := s2) ⟨_, rfl, Kd.R_reok rfl hy (fun k_ e_ => HRo.out.1 k_ e_)⟩ (fun _ hk => hk)); have HB2 := Aside0.mk hb; have HK2 : Aside0 (Kept w w2 (fun k_ => P0_ k_)) := ⟨⟨Nat.le_trans HK.out.1 hkp.1, fun i hi hn => (hkp.2 i (Nat.lt_of_lt_of_le hi HK.out.1) (fun ho => (HOk.out i ho).1.elim hn (fun h3 => by omega))).trans (HK.out.2 i hi hn)⟩⟩; clear hy hb hkp)
    go_roundg (l0.length - m)
    case measure => have := HK1.out; have := HM.out; omega
    case rel => exact ⟨m + 1, _, done ++ [s2], by first | rfl | (simp; done) | go_num, rfl, ⟨by have := of_eq_true q1; omega⟩, ⟨by have := of_eq_true q1; omega⟩, ⟨by rw [List.length_append, HD.out]; rfl⟩, H2, ⟨by rw [← HE.out]; rw [← Int.toNat_natCast m]; exact HS.out⟩, HB2, HK2⟩
  · have q1 : ¬ (m : Int) < (l0.length : Int) := by omega
    have c1b : decide ((m : Int) < (l0.length : Int)) = false := ar q1
    have c1c : decide (m < l0.length) = false := ar c1
    have H3 : Aside0 (kk = r1 ∧ done ++ l0.drop m = r2) := ⟨by
     have e_ := HA.out
     rw [List.drop_eq_nil_of_le (show l0.length ≤ m by omega)] at e_ ⊢
     exact e_⟩
    clear HA c1 q1
    go_wp2
    go_ret
    exact ⟨by have e_ := H3.out.1; subst e_; rfl, by rw [← H3.out.2]; exact HO.out, HB.out, HK.out⟩
attribute [local go_sem] aY aU aV aN aW aQ aX aT
def d8 : Nat → List Int → Int → Int → Option (Int)
 | 0, _, _, _ => none
 | k + 1, x0, x1, x5 => if x5 < (x0.length : Int) then (if 0 ≤ x5 then (if (rd x0 x5) = x1 then (d8 k x0 (wrap64 (x1 + 1)) (wrap64 (x5 + 1))) else (some (-1))) else (none)) else (some x1)
def gr (k : Nat) (l0 : List Int) (a1 : Int) : Option (Int) := d8 k l0 a1 0
theorem lD (k : Nat) (A0 : Option Addr) (c0 : Nat) (l0 : List Int) (a1 : Int) (r : Int) (w : World) (hr0 : Kd.C (Kd.int .i64) w A0 l0.length l0) (hc0 : l0.length ≤ c0) (h : gr k l0 a1 = some r) :
 Calls Tryz.prog 26 #[.slice A0 l0.length c0, .int .i64 a1] w fun e w' => e = .returned (.int .i64 r) ∧ Drawn0 w w' := by
 have HR0 := Aside0.mk hr0
 have HC0 := Aside0.mk hc0
 clear hr0 hc0
 have H := h
 unfold gr at H
 clear h
 have H' := Aside0.mk H
 clear H
 go_enter Tryz.func26, Tryz.ntmps26
 go_wp2
 go_loopg [1, 5] k (fun kq v1 v5 w' => ∃ (x1_1 : Int) (x5_1 : Int), v1 = .int .i64 x1_1 ∧ v5 = .int .i64 x5_1 ∧ Aside0 (d8 kq l0 x1_1 x5_1 = some r) ∧ Aside0 (kq ≤ k) ∧ Drawn0 w w')
 case atStart => exact ⟨(a1), (0), (by first | rfl | (simp; done) | (simp [*]; done)), (by first | rfl | (simp; done) | (simp [*]; done)), H', ⟨au _⟩, by repeat (first | exact Drawn0.refl _ | apply Drawn0.step)⟩
 case round =>
  clear H'
  try clear c2
  try clear p2
  obtain ⟨x1_1, x5_1, rfl, rfl, HA, HK1, ⟨m1, rfl⟩⟩ := hrel
  cases gk with
  | zero => exact absurd HA.out (by simp [d8])
  | succ k1 =>
   have H := HA.out
   clear HA
   simp only [d8] at H
   by_cases c3 : x5_1 < (l0.length : Int)
   · rw [if_pos c3] at H
     have c3b0 := ag c3
     clear c3
     by_cases c4 : 0 ≤ x5_1
     case neg => rw [if_neg c4] at H; simp at H
     rw [if_pos c4] at H
     have c4b0 := ag c4
     clear c4
     by_cases c5 : (rd l0 x5_1) = x1_1
     · rw [if_pos c5] at H
       have c5b0 : ((rd l0 x5_1) == x1_1) = true := beq_iff_eq.mpr c5
       have c5b1 : ((rd l0 x5_1) != x1_1) = false := bne_eq_false_iff_eq.mpr c5
       clear c5
       have H' := Aside0.mk H
       clear H
       have p136 : 0 ≤ (x5_1 : Int) := ac zA
       have q136 : x5_1 < (l0.length : Int) := ac zA
       obtain ⟨ad136, e136, hx136_0⟩ := Kd.at_int HR0.out x5_1 p136 q136
       cases e136
       replace p136 := eq_true p136
       replace q136 := eq_true q136
       go_wp2
       go_roundg k1
       case measure => have := HK1.out; omega
       case rel => exact ⟨(wrap64 (x1_1 + 1)), (wrap64 (x5_1 + 1)), (by first | rfl | (simp; done) | (simp [*]; done)), (by first | rfl | (simp; done) | (simp [*]; done)), H', ⟨by have := HK1.out; omega⟩, by repeat (first | exact Drawn0.refl _ | apply Drawn0.step)⟩
     · rw [if_neg c5] at H
       have c5b0 : ((rd l0 x5_1) == x1_1) = false := beq_eq_false_iff_ne.mpr c5
       have c5b1 : ((rd l0 x5_1) != x1_1) = true := bne_iff_ne.mpr c5
       obtain rfl := ao H
       have p136 : 0 ≤ (x5_1 : Int) := ac zA
       have q136 : x5_1 < (l0.length : Int) := ac zA
       obtain ⟨ad136, e136, hx136_0⟩ := Kd.at_int HR0.out x5_1 p136 q136
       cases e136
       replace p136 := eq_true p136
       replace q136 := eq_true q136
       go_wp2
       go_ret
       exact ⟨by first | rfl | (simp; done) | (simp [*]; done), by repeat (first | exact Drawn0.refl _ | apply Drawn0.step)⟩
   · rw [if_neg c3] at H
     have c3b0 : decide (x5_1 < (l0.length : Int)) = false := ar c3
     clear c3
     obtain rfl := ao H
     go_wp2
     go_ret
     exact ⟨by first | rfl | (simp; done) | (simp [*]; done), by repeat (first | exact Drawn0.refl _ | apply Drawn0.step)⟩
attribute [local go_sem] aY aU aV aN aW aQ aX aT
def d7 : Nat → List (List Int) → Int → Int → Option (Int)
 | 0, _, _, _ => none
 | k + 1, x0, x1, x5 => if x5 < (x0.length : Int) then (if 0 ≤ x5 then ((gr k (af x0 x5) x1).bind fun t138 => (if t138 < 0 then (some (-1)) else (d7 k x0 t138 (wrap64 (x5 + 1))))) else (none)) else (some x1)
def fu (k : Nat) (l0 : List (List Int)) (a1 : Int) : Option (Int) := d7 k l0 a1 0
theorem lC (k : Nat) (A0 : Option Addr) (c0 : Nat) (l0 : List (List Int)) (a1 : Int) (r : Int) (w : World) (hr0 : Kd.C (Kd.slice 3 (Kd.int .i64)) w A0 l0.length l0) (hc0 : l0.length ≤ c0) (h : fu k l0 a1 = some r) :
 Calls Tryz.prog 19 #[.slice A0 l0.length c0, .int .i64 a1] w fun e w' => e = .returned (.int .i64 r) ∧ Drawn0 w w' := by
 have HR0 := Aside0.mk hr0
 have HC0 := Aside0.mk hc0
 clear hr0 hc0
 have H := h
 unfold fu at H
 clear h
 have H' := Aside0.mk H
 clear H
 go_enter Tryz.func19, Tryz.ntmps19
 go_wp2
 go_loopg [1, 5] k (fun kq v1 v5 w' => ∃ (x1_1 : Int) (x5_1 : Int), v1 = .int .i64 x1_1 ∧ v5 = .int .i64 x5_1 ∧ Aside0 (d7 kq l0 x1_1 x5_1 = some r) ∧ Aside0 (kq ≤ k) ∧ Drawn0 w w')
 case atStart => exact ⟨(a1), (0), (by first | rfl | (simp; done) | (simp [*]; done)), (by first | rfl | (simp; done) | (simp [*]; done)), H', ⟨au _⟩, by repeat (first | exact Drawn0.refl _ | apply Drawn0.step)⟩
 case round =>
  clear H'
  try clear c1
  try clear p2
  obtain ⟨x1_1, x5_1, rfl, rfl, HA, HK1, ⟨m1, rfl⟩⟩ := hrel
  cases gk with
  | zero => exact absurd HA.out (by simp [d7])
  | succ k1 =>
   have H := HA.out
   clear HA
   simp only [d7] at H
   by_cases c3 : x5_1 < (l0.length : Int)
   · rw [if_pos c3] at H
     have c3b0 := ag c3
     clear c3
     by_cases c4 : 0 ≤ x5_1
     case neg => rw [if_neg c4] at H; simp at H
     rw [if_pos c4] at H
     have c4b0 := ag c4
     clear c4
     replace H := ay H
     obtain ⟨t138, A50, H⟩ := H
     have A5 := Aside0.mk A50
     clear A50
     by_cases c6 : t138 < 0
     · rw [if_pos c6] at H
       have c6b0 := ag c6
       clear c6
       obtain rfl := ao H
       have p137 : 0 ≤ (x5_1 : Int) := ac zA
       have q137 : x5_1 < (l0.length : Int) := ac zA
       obtain ⟨ad137, A137_0, c137_0, e137, hx137_0, hl137_0, hi137_0⟩ := bd HR0.out x5_1 p137 q137
       cases e137
       have HR137_0 := Aside0.mk hi137_0
       have HC137_0 := Aside0.mk hl137_0
       clear hi137_0 hl137_0
       replace p137 := eq_true p137
       replace q137 := eq_true q137
       go_wp2_with (first | ((with_reducible refine ax (f := 26) rfl ?_); refine zc 17 Tryz.func26 #[.slice A137_0 (af l0 x5_1).length c137_0, .int .i64 x1_1] ?_; (with_reducible refine (lD k1 _ _ (af l0 x5_1) x1_1 t138 _ ?side1 ?side2 A5.out).mono ?_); (case side1 => exact zC HR137_0.out); (case side2 => exact HC137_0.out); rintro e w' ⟨rfl, ⟨nd, rfl⟩⟩; refine ⟨_, rfl, ?_⟩))
       go_ret
       exact ⟨by first | rfl | (simp; done) | (simp [*]; done), by repeat (first | exact Drawn0.refl _ | apply Drawn0.step)⟩
     · rw [if_neg c6] at H
       have c6b0 : decide (t138 < 0) = false := ar c6
       clear c6
       have H' := Aside0.mk H
       clear H
       have p137 : 0 ≤ (x5_1 : Int) := ac zA
       have q137 : x5_1 < (l0.length : Int) := ac zA
       obtain ⟨ad137, A137_0, c137_0, e137, hx137_0, hl137_0, hi137_0⟩ := bd HR0.out x5_1 p137 q137
       cases e137
       have HR137_0 := Aside0.mk hi137_0
       have HC137_0 := Aside0.mk hl137_0
       clear hi137_0 hl137_0
       replace p137 := eq_true p137
       replace q137 := eq_true q137
       go_wp2_with (first | ((with_reducible refine ax (f := 26) rfl ?_); refine zc 17 Tryz.func26 #[.slice A137_0 (af l0 x5_1).length c137_0, .int .i64 x1_1] ?_; (with_reducible refine (lD k1 _ _ (af l0 x5_1) x1_1 t138 _ ?side1 ?side2 A5.out).mono ?_); (case side1 => exact zC HR137_0.out); (case side2 => exact HC137_0.out); rintro e w' ⟨rfl, ⟨nd, rfl⟩⟩; refine ⟨_, rfl, ?_⟩))
       go_roundg k1
       case measure => have := HK1.out; omega
       case rel => exact ⟨(t138), (wrap64 (x5_1 + 1)), (by first | rfl | (simp; done) | (simp [*]; done)), (by first | rfl | (simp; done) | (simp [*]; done)), H', ⟨by have := HK1.out; omega⟩, by repeat (first | exact Drawn0.refl _ | apply Drawn0.step)⟩
   · rw [if_neg c3] at H
     have c3b0 : decide (x5_1 < (l0.length : Int)) = false := ar c3
     clear c3
     obtain rfl := ao H
     go_wp2
     go_ret
     exact ⟨by first | rfl | (simp; done) | (simp [*]; done), by repeat (first | exact Drawn0.refl _ | apply Drawn0.step)⟩
end Go.Proofs.YtadjbmcfgjmhkaaGreat.P
