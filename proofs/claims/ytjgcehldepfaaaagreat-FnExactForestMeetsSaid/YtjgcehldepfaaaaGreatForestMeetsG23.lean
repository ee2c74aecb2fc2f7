import Derived.Test.YtjgcehldepfaaaaGreatForestMeetsG22
import Derived.Test.YtjgcehldepfaaaaGreatForestMeetsG18
import Derived.Lib.SliceRun
namespace Go.Proofs.YtjgcehldepfaaaaGreat.P
open Go.RowKit YtjgcehldepfaaaaGreatW.PrintWords YtjgcehldepfaaaaGreatW.PrintLast YtjgcehldepfaaaaGreatW.PrintMore
attribute [local go_sem] bl bh bi bd bj bf bk bg
set_option maxRecDepth 100000
set_option maxHeartbeats 8000000
set_option linter.unusedVariables false
set_option linter.unusedSimpArgs false
def fO (k : Nat) (a0_0 : Int) (l0_1 : List (S63)) (a1 : Int) : Option ((List (List Int)) × Bool) := (gM k a0_0 l0_1).bind fun t236 => (if t236 = true then ((d3 a1 0 8).bind fun t237 => (if t237 = true then ((iB a0_0 l0_1 a1 a1).bind fun t238 => (some (t238, true))) else (some (([] : List (List Int)), false)))) else (some (([] : List (List Int)), false)))
theorem na (k : Nat) (a0_0 : Int) (A0_1 : Option Addr) (c0_1 : Nat) (l0_1 : List (S63)) (a1 : Int) (r1 : List (List Int)) (r2 : Bool) (w : World) (hr0_1 : Kd.C k63 w A0_1 l0_1.length l0_1) (hc0_1 : l0_1.length ≤ c0_1) (h : fO k a0_0 l0_1 a1 = some (r1, r2)) :
 Calls Tryz.prog 70 #[.agg #[.int .i64 a0_0, .slice A0_1 l0_1.length c0_1], .int .i64 a1] w fun e w' => ∃ v0_ : Value, e = .returned (.tuple #[v0_, .bool r2]) ∧ Kd.S (Kd.slice 3 (Kd.int .i64)) 25 w' w.heap.size (fun _ => True) v0_ r1 ∧ Below w.heap.size w w' := by
 have hu29 := Tryz.underlying29
 have HR0_1 := Aside0.mk hr0_1
 have HC0_1 := Aside0.mk hc0_1
 clear hr0_1 hc0_1
 have HB := zM (Below.refl w.heap.size w)
 have H := h
 unfold fO at H
 clear h
 replace H := av H
 obtain ⟨t236, A30, H⟩ := H
 try dsimp only at H
 have A3 := Aside0.mk A30
 clear A30
 by_cases c4 : t236 = true
 · subst c4
   rw [if_pos rfl] at H
   replace H := av H
   obtain ⟨t237, A50, H⟩ := H
   try dsimp only at H
   have A5 := Aside0.mk A50
   clear A50
   by_cases c6 : t237 = true
   · subst c6
     rw [if_pos rfl] at H
     replace H := av H
     obtain ⟨t238, A70, H⟩ := H
     try dsimp only at H
     have A7 := Aside0.mk A70
     clear A70
     simp only [Option.some.injEq, Prod.mk.injEq] at H
     obtain ⟨rfl, rfl⟩ := H
     go_enter Tryz.func70, Tryz.ntmps70
     go_wp2_with (first | ((with_reducible refine au (N := 2) rfl ?_); refine zb (w := w) 2 #[.int .i64 a0_0, .slice A0_1 l0_1.length c0_1] 29 zB ?_; clear HB; intro gb235 w8 HB BK235 GW235; have GE235 := GW235; have hcz9_0 := zy BK235 0; have hcz9_1 := zy BK235 1; have hfz9_0 := ae BK235.out 0; have hfz9_1 := ae BK235.out 1) | ((with_reducible refine ax (f := 46) rfl ?_); refine zc 7 Tryz.func46 #[.agg #[.int .i64 a0_0, .slice A0_1 l0_1.length c0_1]] ?_; (with_reducible refine (gN k a0_0 _ _ l0_1 true _ ?side1 ?side2 A3.out).mono ?_); (case side1 => exact zC (Kd.C_below HR0_1.out HB.out)); (case side2 => exact HC0_1.out); rintro e w10 ⟨rfl, hb⟩; refine ⟨_, rfl, ?_⟩; replace BK235 := zJ BK235 hb; replace HB := zM (ag zB hb); (try clear hb); (try clear hi)) | (go_at_call 66; (with_reducible refine (eG a1 0 8 true _ A5.out).mono ?_); rintro e w' ⟨rfl, ⟨nd, rfl⟩⟩; have hcz11_0 := zy BK235 0; have hcz11_1 := zy BK235 1; have hfz11_0 := ae BK235.out 0; have hfz11_1 := ae BK235.out 1) | ((with_reducible refine ax (f := 87) rfl ?_); refine zc 17 Tryz.func87 #[.agg #[.int .i64 a0_0, .slice A0_1 l0_1.length c0_1], .int .i64 a1, .int .i64 a1] ?_; (with_reducible refine (se a0_0 _ _ l0_1 a1 a1 t238 _ ?side1 ?side2 A7.out).mono ?_); (case side1 => exact zC (Kd.C_below HR0_1.out zB)); (case side2 => exact HC0_1.out); rintro e w12 ⟨v239, rfl, ho0, hb⟩; refine ⟨_, rfl, ?_⟩; have HO240 := zM (Kd.S_lower ho0 (am zB)); replace BK235 := zJ BK235 hb; replace HB := zM (ag zB hb); (try clear hb); (try clear ho0)))
     go_ret2
     exact ⟨_, by first | rfl | (simp [al, ak] <;> rfl) | (simp [*, al, ak] <;> rfl), by (with_reducible repeat (first | apply Kd.S_alloc | apply Kd.S_drewN | apply Kd.S_drew)); exact HO240.out, zB⟩
   · replace c6 := Bool.eq_false_iff.mpr c6
     subst c6
     rw [if_neg (show ¬ (false = true) by decide)] at H
     simp only [Option.some.injEq, Prod.mk.injEq] at H
     obtain ⟨rfl, rfl⟩ := H
     go_enter Tryz.func70, Tryz.ntmps70
     go_wp2_with (first | ((with_reducible refine au (N := 2) rfl ?_); refine zb (w := w) 2 #[.int .i64 a0_0, .slice A0_1 l0_1.length c0_1] 29 zB ?_; clear HB; intro gb235 w13 HB BK235 GW235; have GE235 := GW235; have hcz14_0 := zy BK235 0; have hcz14_1 := zy BK235 1; have hfz14_0 := ae BK235.out 0; have hfz14_1 := ae BK235.out 1) | ((with_reducible refine ax (f := 46) rfl ?_); refine zc 7 Tryz.func46 #[.agg #[.int .i64 a0_0, .slice A0_1 l0_1.length c0_1]] ?_; (with_reducible refine (gN k a0_0 _ _ l0_1 true _ ?side1 ?side2 A3.out).mono ?_); (case side1 => exact zC (Kd.C_below HR0_1.out HB.out)); (case side2 => exact HC0_1.out); rintro e w15 ⟨rfl, hb⟩; refine ⟨_, rfl, ?_⟩; replace BK235 := zJ BK235 hb; replace HB := zM (ag zB hb); (try clear hb); (try clear hi)) | (go_at_call 66; (with_reducible refine (eG a1 0 8 false _ A5.out).mono ?_); rintro e w' ⟨rfl, ⟨nd, rfl⟩⟩))
     go_ret2
     exact ⟨_, by first | rfl | (simp [al, ak] <;> rfl) | (simp [*, al, ak] <;> rfl), by first | exact Kd.S_nil _ _ _ _ _ | exact Kd.N_nil _ _ _ _ _ | exact Kd.V_nil _ _ _ _ _ | exact Kd.Q_nil _ _ _ _ _ | exact Kd.R_nil _ _ _ _ _, zB⟩
 · replace c4 := Bool.eq_false_iff.mpr c4
   subst c4
   rw [if_neg (show ¬ (false = true) by decide)] at H
   simp only [Option.some.injEq, Prod.mk.injEq] at H
   obtain ⟨rfl, rfl⟩ := H
   go_enter Tryz.func70, Tryz.ntmps70
   go_wp2_with (first | ((with_reducible refine au (N := 2) rfl ?_); refine zb (w := w) 2 #[.int .i64 a0_0, .slice A0_1 l0_1.length c0_1] 29 zB ?_; clear HB; intro gb235 w16 HB BK235 GW235; have GE235 := GW235; have hcz17_0 := zy BK235 0; have hcz17_1 := zy BK235 1; have hfz17_0 := ae BK235.out 0; have hfz17_1 := ae BK235.out 1) | ((with_reducible refine ax (f := 46) rfl ?_); refine zc 7 Tryz.func46 #[.agg #[.int .i64 a0_0, .slice A0_1 l0_1.length c0_1]] ?_; (with_reducible refine (gN k a0_0 _ _ l0_1 false _ ?side1 ?side2 A3.out).mono ?_); (case side1 => exact zC (Kd.C_below HR0_1.out HB.out)); (case side2 => exact HC0_1.out); rintro e w18 ⟨rfl, hb⟩; refine ⟨_, rfl, ?_⟩; replace BK235 := zJ BK235 hb; replace HB := zM (ag zB hb); (try clear hb); (try clear hi)))
   go_ret2
   exact ⟨_, by first | rfl | (simp [al, ak] <;> rfl) | (simp [*, al, ak] <;> rfl), by first | exact Kd.S_nil _ _ _ _ _ | exact Kd.N_nil _ _ _ _ _ | exact Kd.V_nil _ _ _ _ _ | exact Kd.Q_nil _ _ _ _ _ | exact Kd.R_nil _ _ _ _ _, zB⟩
def bm (a b : List Int) : List Int := a.filter fun x => !decide (x ∈ b)
def ir (x y : List Int) : Bool := (bm x y).length == 1 && (bm y x).length == 1
def uv (x y : List Int) : Bool := (bm x y).length + (bm y x).length == 1
def gC (es : List S63) (a b : Int) : Bool := es.any fun e => (e.f0 == a && e.f1 == b) || (e.f0 == b && e.f1 == a)
def ba (es : List S63) (x y : List Int) : Bool := ir x y && gC es ((bm x y).headD 0) ((bm y x).headD 0)
def gq (ok : Bool) (st : List Int → List Int → Bool) (t : List (List Int)) : Option (List (List Int) × List S63 × Bool) :=
 if t.length ≤ 1024 ∧ ok = true then some (bQ t, aT st 0 (bQ t), true) else none
def jI (f : List Int → List Int → Option Bool) (st : List Int → List Int → Bool) (t : List (List Int)) : Bool := decide (∀ x ∈ t, ∀ y ∈ t, f x y = some (st x y))
theorem pj (k : Nat) (a0 : Int) (A1 : Option Addr) (c1 : Nat) (l1 : List S63) (ls : List (List Int)) (w : World) (hr : Kd.C k63 w A1 l1.length l1) (hc1 : l1.length ≤ c1) (h : ∀ x ∈ ls, ∀ y ∈ ls, fm k a0 l1 x y = some (ba l1 x y)) : kO 72 #[.agg #[.int .i64 a0, .slice A1 l1.length c1]] #[] (ba l1) ls w := by
 intro W x y A B c c' hx hy hb ha hc hb' hc'
 have h0 := rY k a0 A1 c1 l1 A c x B c' y _ W (Kd.C_below hr hb) hc1 ha hc hb' hc' (h x hx y hy)
 rw [show (#[.agg #[.int .i64 a0, .slice A1 l1.length c1]] : Array Value) ++ (#[.slice A x.length c, .slice B y.length c'] ++ #[]) = #[.agg #[.int .i64 a0, .slice A1 l1.length c1], .slice A x.length c, .slice B y.length c'] from by simp]
 exact h0.mono fun e w' h => ⟨h.1, by first | exact h.2 | exact Drawn0.below h.2⟩
def iA (k : Nat) (a0_0 : Int) (l0_1 : List S63) (a1 : Int) : Option (List (List Int) × List S63 × Bool) :=
 (fO k a0_0 l0_1 a1).bind fun t => if t.2 = true then gq (jI (fm k a0_0 l0_1) (ba l0_1) t.1) (ba l0_1) t.1 else some ([], [], false)
set_option maxHeartbeats 2000000 in
theorem rX (k : Nat) (a0_0 : Int) (A0_1 : Option Addr) (c0_1 : Nat) (l0_1 : List (S63)) (a1 : Int) (r1 : List (List Int)) (r2 : List S63) (r3 : Bool) (w : World) (hr0_1 : Kd.C k63 w A0_1 l0_1.length l0_1) (hc0_1 : l0_1.length ≤ c0_1) (h : iA k a0_0 l0_1 a1 = some (r1, r2, r3)) :
  Calls Tryz.prog 48 #[.agg #[.int .i64 a0_0, .slice A0_1 l0_1.length c0_1], .int .i64 a1] w fun e w' => ∃ v0_ v1_ : Value, e = .returned (.tuple #[.agg #[v0_, v1_], .bool r3]) ∧ Kd.S (Kd.slice 3 (Kd.int .i64)) 25 w' w.heap.size (fun _ => True) v0_ r1 ∧ Kd.R k63 63 w' w.heap.size (fun _ => True) v1_ r2 ∧ Below w.heap.size w w' := by
 have hu := Tryz.underlying67
 have hug := Tryz.underlying29
 have HR := zM hr0_1
 have HC := zM hc0_1
 have HB := zM (Below.refl w.heap.size w)
 clear hr0_1 hc0_1
 unfold iA at h
 obtain ⟨t, ht, h⟩ := av h
 obtain ⟨ls, b⟩ := t
 have HT := zM ht
 clear ht
 cases b with
 | false =>
  simp only [Bool.false_eq_true, if_false, Option.some.injEq, Prod.mk.injEq] at h
  obtain ⟨rfl, rfl, rfl⟩ := h
  go_enter Tryz.func48, Tryz.ntmps48
  go_wp2_with (first
    | ((with_reducible refine au (N := 2) rfl ?_); refine ze 2 #[.int .i64 a0_0, .slice A0_1 l0_1.length c0_1] 29 ?_; intro g2 hg w1 hbox hb; have BK2 := zM hbox; replace HB := zM (ag HB.out hb); clear hg hbox hb)
    | ((with_reducible refine au (N := 4) rfl ?_); refine ze 4 #[.slice none 0 0, .slice none 0 0] 67 ?_; intro g4 hg w2 hbox hb; have BK4 := zM hbox; have HG4 := zM (show w.heap.size ≤ g4 by rw [hg]; exact am HB.out); replace HB := zM (ag HB.out hb); replace BK2 := zM (bw BK2.out hb); clear hg hbox hb; have hd0 := zy BK2 0; have hd1 := zy BK2 1)
    | (go_at_call 70; refine (na k a0_0 A0_1 c0_1 l0_1 a1 _ _ _ (Kd.C_below HR.out HB.out) HC.out HT.out).mono ?_; rintro e w3 ⟨v3, rfl, ho, hb⟩; have BK2b := zM (bw BK2.out hb); have BK4b := zM (bw BK4.out hb); have HB3 := zM (ag HB.out hb); have HBs := zM hb; have HS := zM ho; clear hb ho; have hc0 := zy BK4b 0; have hc1 := zy BK4b 1; have hf0 := ae BK4b.out 0; have hf1 := ae BK4b.out 1; clear hd0 hd1; have hd0 := zy BK2b 0; have hd1 := zy BK2b 1; have hg0 := ae BK2b.out 0; have hg1 := ae BK2b.out 1))
  (try simp only [Exit.inBlock, Exit.then])
  refine bodyPost_ret (lX rfl _ _ g4 67 #[.slice none 0 0, .slice none 0 0] (0, 0) _ rfl (aK (cs := #[.slice none 0 0, .slice none 0 0]) (aK (cs := #[.slice none 0 0, .slice none 0 0]) BK4b.out 0 _ rfl) 1 _ rfl) hu rfl (by kernel_rfl)) rfl ?_
  exact ⟨_, _, by first | rfl | (simp; done), Kd.S_nil _ _ _ _ _, Kd.R_nil _ _ _ _ _, bJ (bJ HB3.out HG4.out) HG4.out⟩
 | true =>
  simp only [if_true] at h
  unfold gq at h
  by_cases c : ls.length ≤ 1024 ∧ jI (fm k a0_0 l0_1) (ba l0_1) ls = true
  case neg => rw [if_neg c] at h; cases h
  rw [if_pos c] at h
  simp only [Option.some.injEq, Prod.mk.injEq] at h
  obtain ⟨rfl, rfl, rfl⟩ := h
  have HST := zM (ac c.2)
  have HL := zM c.1
  clear c
  go_enter Tryz.func48, Tryz.ntmps48
  go_wp2_with (first
    | ((with_reducible refine au (N := 2) rfl ?_); refine ze 2 #[.int .i64 a0_0, .slice A0_1 l0_1.length c0_1] 29 ?_; intro g2 hg w1 hbox hb; have BK2 := zM hbox; replace HB := zM (ag HB.out hb); clear hg hbox hb)
    | ((with_reducible refine au (N := 4) rfl ?_); refine ze 4 #[.slice none 0 0, .slice none 0 0] 67 ?_; intro g4 hg w2 hbox hb; have BK4 := zM hbox; have HG4 := zM (show w.heap.size ≤ g4 by rw [hg]; exact am HB.out); replace HB := zM (ag HB.out hb); replace BK2 := zM (bw BK2.out hb); clear hg hbox hb; have hd0 := zy BK2 0; have hd1 := zy BK2 1)
    | (go_at_call 70; refine (na k a0_0 A0_1 c0_1 l0_1 a1 _ _ _ (Kd.C_below HR.out HB.out) HC.out HT.out).mono ?_; rintro e w3 ⟨v3, rfl, ho, hb⟩; have BK2b := zM (bw BK2.out hb); have BK4b := zM (bw BK4.out hb); have HB3 := zM (ag HB.out hb); have HBs := zM hb; have HS := zM ho; clear hb ho; have hc0 := zy BK4b 0; have hc1 := zy BK4b 1; have hf0 := ae BK4b.out 0; have hf1 := ae BK4b.out 1; clear hd0 hd1; have hd0 := zy BK2b 0; have hd1 := zy BK2b 1; have hg0 := ae BK2b.out 0; have hg1 := ae BK2b.out 1)
    | (go_at_call 71; refine (o9 72 #[.agg #[.int .i64 a0_0, .slice A0_1 l0_1.length c0_1]] #[] (enters_of Tryz.func72 (by kernel_rfl) rfl) (ba l0_1) v3 ls w2 w3 HBs.out HS.out HL.out (pj k a0_0 A0_1 c0_1 l0_1 ls w2 (Kd.C_below HR.out HB.out) HC.out HST.out)).mono ?_; rintro e w5 ⟨v5, v6, rfl, h0, h1, hb⟩; clear hc0 hc1 hf0 hf1 BK4b; have BK4b := zM (bw BK4.out hb); have HB5 := zM (ag HB.out hb); have HS5 := zM (Kd.S_lower h0 (am HB.out)); have HR5 := zM (Kd.R_lower h1 (am HB.out)); clear h0 h1 hb; obtain ⟨A5, c5, e5⟩ := Kd.S_slice HS5.out; subst e5; obtain ⟨A6, c6, e6⟩ := Kd.R_slice HR5.out; subst e6; have hc0 := zy BK4b 0; have hc1 := zy BK4b 1; have hf0 := ae BK4b.out 0; have hf1 := ae BK4b.out 1))
  (try simp only [Exit.inBlock, Exit.then])
  refine bodyPost_ret (lX rfl _ _ g4 67 #[.slice A5 (bQ ls).length c5, .slice A6 (aT (ba l0_1) 0 (bQ ls)).length c6] (0, 0) _ rfl (aK (cs := #[.slice A5 (bQ ls).length c5, .slice none 0 0]) (aK (cs := #[.slice none 0 0, .slice none 0 0]) BK4b.out 0 _ rfl) 1 _ rfl) hu rfl (by kernel_rfl)) rfl ?_
  refine ⟨_, _, by first | rfl | (simp; done), ?_, ?_, bJ (bJ HB5.out HG4.out) HG4.out⟩
  · exact Kd.S_mono (Kd.S_far (p := ⟨g4, 1, none⟩) (Kd.S_far (p := ⟨g4, 0, none⟩) (Kd.S_types HS5.out BK4b.out (by decide)) (fun _ hk => hk.2) _) (fun _ hk => hk.2) _) (fun _ _ => trivial)
  · exact Kd.R_mono (Kd.R_far (p := ⟨g4, 1, none⟩) (Kd.R_far (p := ⟨g4, 0, none⟩) (Kd.R_types HR5.out BK4b.out (by decide)) (fun _ hk => hk.2) _) (fun _ hk => hk.2) _) (fun _ _ => trivial)
attribute [local go_sem] bl bh bi bd bj bf bk bg
set_option linter.unusedVariables false
set_option linter.unusedSimpArgs false
def d7 : Nat → Int → List Int → Int → Int → List (List Int) → List (S63) → Option (List Int)
 | 0, _, _, _, _, _, _ => none
 | k + 1, x9, x30, x31, x32, x445000, x445001 => if x32 < x31 then (if 0 ≤ x32 then (if x32 < (x30.length : Int) then (if (rd x30 x32) ≥ 0 then (if x32 < (x445000.length : Int) then ((bV k (ai x445000 x32)).bind fun t456 => (d7 k (Go.bits .and .u64 x9 t456) x30 x31 (wrap64 (x32 + 1)) x445000 x445001)) else (none)) else (d7 k x9 x30 x31 (wrap64 (x32 + 1)) x445000 x445001)) else (none)) else (none)) else ((eH k x9).bind fun t457 => (some t457))
def d8 (k : Nat) (a0_0 : Int) (l0_1 : List (S63)) (l1 : List Int) : Option (List Int) := (iA k a0_0 l0_1 (l1.length : Int)).bind fun bt437 => ((iz bt437.1 bt437.2.1 l1).bind fun bt445 => ((bV k l1).bind fun t447 => ((js k bt437.1 bt437.2.1).bind fun t448 => ((iw k t448 bt445.1).bind fun t451 => (d7 k t447 t451 (t451.length : Int) 0 bt437.1 bt437.2.1)))))
theorem ju (k : Nat) (a0_0 : Int) (A0_1 : Option Addr) (c0_1 : Nat) (l0_1 : List (S63)) (A1 : Option Addr) (c1 : Nat) (l1 : List Int) (r : List Int) (w : World) (hr0_1 : Kd.C k63 w A0_1 l0_1.length l0_1) (hc0_1 : l0_1.length ≤ c0_1) (hr1 : Kd.C (Kd.int .i64) w A1 l1.length l1) (hc1 : l1.length ≤ c1) (h : d8 k a0_0 l0_1 l1 = some r) :
 Calls Tryz.prog 24 #[.agg #[.int .i64 a0_0, .slice A0_1 l0_1.length c0_1], .slice A1 l1.length c1] w fun e w' => ∃ v0_ : Value, e = .returned (v0_) ∧ Kd.R (Kd.int .i64) 3 w' w.heap.size (fun _ => True) v0_ r ∧ Below w.heap.size w w' := by
 have hu29 := Tryz.underlying29
 have hu67 := Tryz.underlying67
 have HR0_1 := Aside0.mk hr0_1
 have HC0_1 := Aside0.mk hc0_1
 clear hr0_1 hc0_1
 have HR1 := Aside0.mk hr1
 have HC1 := Aside0.mk hc1
 clear hr1 hc1
 have HB := zM (Below.refl w.heap.size w)
 have H := h
 unfold d8 at H
 clear h
 replace H := av H
 obtain ⟨⟨t437, t440, t443⟩, A30, H⟩ := H
 try dsimp only at H
 have A3 := Aside0.mk A30
 clear A30
 replace H := av H
 obtain ⟨⟨t445, t446⟩, A40, H⟩ := H
 try dsimp only at H
 have A4 := Aside0.mk A40
 clear A40
 replace H := av H
 obtain ⟨t447, A50, H⟩ := H
 have A5 := Aside0.mk A50
 clear A50
 replace H := av H
 obtain ⟨t448, A60, H⟩ := H
 have A6 := Aside0.mk A60
 clear A60
 replace H := av H
 obtain ⟨t451, A70, H⟩ := H
 have A7 := Aside0.mk A70
 clear A70
 have H' := Aside0.mk H
 clear H
 go_enter Tryz.func24, Tryz.ntmps24
 go_wp2_with (first | ((with_reducible refine au (N := 2) rfl ?_); refine zb (w := w) 2 #[.int .i64 a0_0, .slice A0_1 l0_1.length c0_1] 29 zB ?_; clear HB; intro gb436 w8 HB BK436 GW436; have GE436 := GW436; have hcz9_0 := zy BK436 0; have hcz9_1 := zy BK436 1; have hfz9_0 := ae BK436.out 0; have hfz9_1 := ae BK436.out 1) | ((with_reducible refine ax (f := 48) rfl ?_); refine zc 16 Tryz.func48 #[.agg #[.int .i64 a0_0, .slice A0_1 l0_1.length c0_1], .int .i64 (l1.length : Int)] ?_; (with_reducible refine (rX k a0_0 _ _ l0_1 (l1.length : Int) t437 t440 t443 _ ?side1 ?side2 A3.out).mono ?_); (case side1 => exact zC (Kd.C_below HR0_1.out HB.out)); (case side2 => exact HC0_1.out); rintro e w10 ⟨v438, v441, rfl, ho0, ho1, hb⟩; refine ⟨_, rfl, ?_⟩; have HO439 := zM (Kd.S_lower ho0 (am zB)); have HO442 := zM (Kd.R_lower ho1 (am zB)); replace BK436 := zJ BK436 hb; replace HB := zM (ag zB hb); (try clear hb); (try clear ho0); (try clear ho1)) | ((with_reducible refine au (N := 5) rfl ?_); refine ze 5 #[.slice none 0 0, .slice none 0 0] 67 ?_; intro gb444 hg w11 hbox hb; replace HO439 := zM (Kd.S_below (by (with_reducible repeat (first | apply Kd.S_alloc | apply Kd.S_drewN | apply Kd.S_drew)); exact HO439.out) hb); replace HO442 := zM (Kd.R_below (zR HO442.out) hb); have BK444 := zM (hbox); have GW444 := zM ((by rw [hg]; exact (am zB) : w.heap.size ≤ gb444)); have GE444 := zM ((by rw [hg]; exact (am zB) : w.heap.size ≤ gb444)); replace HB := zM (ag zB hb); have NB436_444 := zM ((by rw [hg]; exact Nat.ne_of_lt (aH (g := gb436) (o := .cells #[.int .i64 a0_0, .slice A0_1 l0_1.length c0_1] 29 (0, 0)) (zK BK436.out)) : gb436 ≠ gb444)); have NB444_436 := zM ((by rw [hg]; exact Nat.ne_of_gt (aH (g := gb436) (o := .cells #[.int .i64 a0_0, .slice A0_1 l0_1.length c0_1] 29 (0, 0)) (zK BK436.out)) : gb444 ≠ gb436)); replace BK436 := zJ BK436 hb; clear hb hbox hg; obtain ⟨Ao12, co12, eo12⟩ := Kd.S_slice HO439.out; subst eo12; have hnb13 := NB444_436.out; have hnc13 := NB436_444.out; have hcz14_0 := zy BK444 0; have hcz14_1 := zy BK444 1; have hfz14_0 := ae BK444.out 0; have hfz14_1 := ae BK444.out 1; obtain ⟨Ao15, co15, eo15⟩ := Kd.R_slice HO442.out; subst eo15) | ((with_reducible refine ax (f := 49) rfl ?_); refine zc 22 Tryz.func49 #[.agg #[.slice Ao12 t437.length co12, .slice Ao15 t440.length co15], .slice A1 l1.length c1] ?_; (with_reducible refine (rV _ _ t437 _ _ t440 _ _ l1 t445 t446 _ ?side1 ?side2 ?side3 ?side4 ?side5 ?side6 A4.out).mono ?_); (case side1 => refine (Kd.S_reads' (e := 25) (base := w.heap.size) (ok := fun k_ => True) (n := t437.length) (c := co12) ?_).2.2; exact (by (with_reducible repeat (first | apply Kd.S_alloc | apply Kd.S_drewN | apply Kd.S_drew)); exact (Kd.S_mono (Kd.S_far (p := ⟨gb444, 1, none⟩) (Kd.S_far (p := ⟨gb444, 0, none⟩) (Kd.S_types HO439.out BK444.out (by decide)) (fun _ hk => hk.2) (.slice Ao12 t437.length co12)) (fun _ hk => hk.2) (.slice Ao15 t440.length co15)) (fun _ h_ => h_.1)))); (case side2 => exact (Kd.S_reads' HO439.out).2.1); (case side3 => refine (Kd.R_reads' (e := 63) (base := w.heap.size) (ok := fun k_ => True) (n := t440.length) (c := co15) ?_).2.2; exact (by (with_reducible repeat (first | apply Kd.R_alloc | apply Kd.R_drewN | apply Kd.R_drew)); exact (Kd.R_mono (Kd.R_far (p := ⟨gb444, 1, none⟩) (Kd.R_far (p := ⟨gb444, 0, none⟩) (Kd.R_types HO442.out BK444.out (by decide)) (fun _ hk => hk.2) (.slice Ao12 t437.length co12)) (fun _ hk => hk.2) (.slice Ao15 t440.length co15)) (fun _ h_ => h_.1)))); (case side4 => exact (Kd.R_reads' HO442.out).2.1); (case side5 => exact Kd.C_below HR1.out zB); (case side6 => exact HC1.out); rintro e w16 ⟨rfl, hb⟩; refine ⟨_, rfl, ?_⟩; replace HO439 := zM (Kd.S_below (by (with_reducible repeat (first | apply Kd.S_alloc | apply Kd.S_drewN | apply Kd.S_drew)); exact (Kd.S_mono (Kd.S_far (p := ⟨gb444, 1, none⟩) (Kd.S_far (p := ⟨gb444, 0, none⟩) (Kd.S_types HO439.out BK444.out (by decide)) (fun _ hk => hk.2) (.slice Ao12 t437.length co12)) (fun _ hk => hk.2) (.slice Ao15 t440.length co15)) (fun _ h_ => h_.1))) hb); replace HO442 := zM (Kd.R_below (by (with_reducible repeat (first | apply Kd.R_alloc | apply Kd.R_drewN | apply Kd.R_drew)); exact (Kd.R_mono (Kd.R_far (p := ⟨gb444, 1, none⟩) (Kd.R_far (p := ⟨gb444, 0, none⟩) (Kd.R_types HO442.out BK444.out (by decide)) (fun _ hk => hk.2) (.slice Ao12 t437.length co12)) (fun _ hk => hk.2) (.slice Ao15 t440.length co15)) (fun _ h_ => h_.1))) hb); replace BK436 := zM (bw (g := gb436) (o := .cells #[.int .i64 a0_0, .slice A0_1 l0_1.length c0_1] 29 (0, 0)) (by (with_reducible repeat (first | refine ay ?_ _ | refine aq ?_ | refine aw ?_ _)); refine bG ?_ NB436_444.out _; (with_reducible repeat (first | refine ay ?_ _ | refine aq ?_ | refine aw ?_ _)); refine bG ?_ NB436_444.out _; (with_reducible repeat (first | refine ay ?_ _ | refine aq ?_ | refine aw ?_ _)); exact BK436.out) hb); replace BK444 := zM (bw (g := gb444) (o := .cells #[.slice Ao12 t437.length co12, .slice Ao15 t440.length co15] 67 (0, 0)) (by (with_reducible repeat (first | refine ay ?_ _ | refine aq ?_ | refine aw ?_ _)); refine aK (cs := #[.slice Ao12 t437.length co12, .slice none 0 0]) ?_ 1 _ rfl; (with_reducible repeat (first | refine ay ?_ _ | refine aq ?_ | refine aw ?_ _)); refine aK (cs := #[.slice none 0 0, .slice none 0 0]) ?_ 0 _ rfl; (with_reducible repeat (first | refine ay ?_ _ | refine aq ?_ | refine aw ?_ _)); exact BK444.out) hb); replace HB := zM (ag zB hb); (try clear hb); (try clear hi)) | ((with_reducible refine ax (f := 32) rfl ?_); refine zc 26 Tryz.func32 #[.slice A1 l1.length c1] ?_; (with_reducible refine (cI k _ _ l1 t447 _ ?side1 ?side2 A5.out).mono ?_); (case side1 => exact zC (Kd.C_below HR1.out HB.out)); (case side2 => exact HC1.out); rintro e w' ⟨rfl, ⟨nd, rfl⟩⟩; refine ⟨_, rfl, ?_⟩; have hcz17_0 := zy BK444 0; have hcz17_1 := zy BK444 1; have hfz17_0 := ae BK444.out 0; have hfz17_1 := ae BK444.out 1) | ((with_reducible refine ax (f := 51) rfl ?_); refine zc 28 Tryz.func51 #[.agg #[.slice Ao12 t437.length co12, .slice Ao15 t440.length co15]] ?_; (with_reducible refine (rQ k _ _ t437 _ _ t440 t448 _ ?side1 ?side2 ?side3 ?side4 A6.out).mono ?_); (case side1 => exact zC (Kd.S_reads' HO439.out).2.2); (case side2 => exact (Kd.S_reads' HO439.out).2.1); (case side3 => exact zC (Kd.R_reads' HO442.out).2.2); (case side4 => exact (Kd.R_reads' HO442.out).2.1); rintro e w18 ⟨v449, rfl, ho0, hb⟩; refine ⟨_, rfl, ?_⟩; replace HO442 := zM (Kd.R_below (zR HO442.out) hb); have HO450 := zM (Kd.S_lower (Kd.S_new' ho0 (Kd.S_lt (by (with_reducible repeat (first | apply Kd.S_alloc | apply Kd.S_drewN | apply Kd.S_drew)); exact HO439.out))) (am zB)); replace HO439 := zM (Kd.S_elder' (by (with_reducible repeat (first | apply Kd.S_alloc | apply Kd.S_drewN | apply Kd.S_drew)); exact HO439.out) (Kd.S_base ho0) hb); replace BK436 := zJ BK436 hb; replace BK444 := zJ BK444 hb; replace HB := zM (ag zB hb); (try clear hb); (try clear ho0); obtain ⟨Ao19, co19, eo19⟩ := Kd.S_slice HO450.out; subst eo19) | ((with_reducible refine ax (f := 50) rfl ?_); refine zc 30 Tryz.func50 #[.slice Ao19 t448.length co19, .int .i64 t445] ?_; (with_reducible refine (rE k _ _ t448 t445 t451 _ ?side1 ?side2 A7.out).mono ?_); (case side1 => exact zC (Kd.S_reads' HO450.out).2.2); (case side2 => exact (Kd.S_reads' HO450.out).2.1); rintro e w20 ⟨v452, rfl, ho0, hb⟩; refine ⟨_, rfl, ?_⟩; replace HO439 := zM (Kd.S_elder' (by (with_reducible repeat (first | apply Kd.S_alloc | apply Kd.S_drewN | apply Kd.S_drew)); exact HO439.out) (Kd.R_base ho0) hb); replace HO442 := zM (Kd.R_below (zR HO442.out) hb); replace HO450 := zM (Kd.S_elder' (by (with_reducible repeat (first | apply Kd.S_alloc | apply Kd.S_drewN | apply Kd.S_drew)); exact HO450.out) (Kd.R_base ho0) hb); have HO453 := zM (Kd.R_lower ho0 (am zB)); replace BK436 := zJ BK436 hb; replace BK444 := zJ BK444 hb; replace HB := zM (ag zB hb); (try clear hb); (try clear ho0); obtain ⟨Ao21, co21, eo21⟩ := Kd.R_slice HO453.out; subst eo21))
 go_loopg [9, 32] k (fun kq v9 v32 w' => ∃ (x9_1 : Int) (x32_1 : Int), v9 = .int .u64 x9_1 ∧ v32 = .int .i64 x32_1 ∧ Aside0 (d7 kq x9_1 t451 (t451.length : Int) x32_1 t437 t440 = some r) ∧ Aside0 (kq ≤ k) ∧ Aside0 (Kd.R (Kd.int .i64) 3 w' w.heap.size (fun _ => True) (.slice Ao21 t451.length co21) t451) ∧ Aside0 (Kd.S (Kd.slice 3 (Kd.int .i64)) 25 w' w.heap.size (fun k_ => some k_ ≠ ((.slice Ao21 t451.length co21) : Value).ownBlock) (.slice Ao12 t437.length co12) t437) ∧ Aside0 (Kd.R k63 63 w' w.heap.size (fun _ => True) (.slice Ao15 t440.length co15) t440) ∧ Aside0 (w'.heap[gb436]? = some (.cells #[.int .i64 a0_0, (.slice A0_1 l0_1.length c0_1)] 29 (0, 0))) ∧ Aside0 (w'.heap[gb444]? = some (.cells #[(.slice Ao12 t437.length co12), (.slice Ao15 t440.length co15)] 67 (0, 0))) ∧ Aside0 (Below w.heap.size w w'))
 case atStart => exact ⟨(t447), (0), (by first | rfl | (simp; done) | (simp [*]; done)), (by first | rfl | (simp; done) | (simp [*]; done)), H', ⟨ar _⟩, ⟨zR HO453.out⟩, ⟨by (with_reducible repeat (first | apply Kd.S_alloc | apply Kd.S_drewN | apply Kd.S_drew)); exact Kd.S_mono HO439.out (fun _ hk => hk.2)⟩, ⟨zR HO442.out⟩, ⟨zK BK436.out⟩, ⟨zK BK444.out⟩, ⟨zB⟩⟩
 case round =>
  clear H'
  try clear c1
  try clear c2
  try clear p2
  try clear c3
  try clear c4
  try clear c5
  try clear c13
  try clear hcz14_0
  try clear hcz14_1
  try clear hcz17_0
  try clear hcz17_1
  try clear hcz9_0
  try clear hcz9_1
  try clear hfz14_0
  try clear hfz14_1
  try clear hfz17_0
  try clear hfz17_1
  try clear hfz9_0
  try clear hfz9_1
  obtain ⟨x9_1, x32_1, rfl, rfl, HA, HK1, HO_30, HO_445000, HO_445001, BK436, BK444, HB⟩ := hrel
  cases gk with
  | zero => exact absurd HA.out (by simp [d7])
  | succ k1 =>
   have H := HA.out
   clear HA
   simp only [d7] at H
   by_cases c22 : x32_1 < (t451.length : Int)
   · rw [if_pos c22] at H
     have c22b0 := af c22
     clear c22
     by_cases c23 : 0 ≤ x32_1
     case neg => rw [if_neg c23] at H; simp at H
     rw [if_pos c23] at H
     have c23b0 := af c23
     clear c23
     by_cases c24 : x32_1 < (t451.length : Int)
     case neg => rw [if_neg c24] at H; simp at H
     rw [if_pos c24] at H
     have c24b0 := af c24
     clear c24
     by_cases c25 : (rd t451 x32_1) ≥ 0
     · rw [if_pos c25] at H
       have c25b0 : decide (0 ≤ (rd t451 x32_1)) = true := af c25
       clear c25
       by_cases c26 : x32_1 < (t437.length : Int)
       case neg => rw [if_neg c26] at H; simp at H
       rw [if_pos c26] at H
       have c26b0 := af c26
       clear c26
       replace H := av H
       obtain ⟨t456, A270, H⟩ := H
       have A27 := Aside0.mk A270
       clear A270
       have H' := Aside0.mk H
       clear H
       have p454 : 0 ≤ (x32_1 : Int) := ac zA
       have q454 : x32_1 < (t451.length : Int) := ac zA
       obtain ⟨ad454, e454, hx454_0⟩ := Kd.at_int (Kd.R_reads' HO_30.out).2.2 x32_1 p454 q454
       cases e454
       replace p454 := eq_true p454
       replace q454 := eq_true q454
       have hnb28 := NB444_436.out
       have hnc28 := NB436_444.out
       have hcz29_0 := zy BK444 0
       have hcz29_1 := zy BK444 1
       have hfz29_0 := ae BK444.out 0
       have hfz29_1 := ae BK444.out 1
       have p455 : 0 ≤ (x32_1 : Int) := ac zA
       have q455 : x32_1 < (t437.length : Int) := ac zA
       obtain ⟨ad455, A455_0, c455_0, e455, hx455_0, hl455_0, hi455_0⟩ := ee (Kd.S_reads' HO_445000.out).2.2 x32_1 p455 q455
       cases e455
       obtain ⟨ce455, hce455, hMe455, hcc455⟩ := Kd.S_get HO_445000.out [] x32_1 p455 (by first | exact q455 | exact ac zA | (have e_ := (Kd.S_reads' HO_445000.out).1; omega))
       obtain ⟨ve455_0, rfl, ge455_0⟩ := hMe455
       have hv455_0 := hcc455 0 _ rfl
       rw [Nat.add_zero, show ((Kd.slice 3 (Kd.int .i64))).sz = 1 from rfl, Nat.mul_one] at hv455_0
       replace hv455_0 := ap (hv455_0.symm.trans hx455_0)
       rw [hv455_0] at ge455_0
       have HL455_0 := zM (show Kd.R (Kd.int .i64) 3 _ _ _ _ (ai t437 x32_1) from ge455_0)
       clear hv455_0 ge455_0
       clear hcc455 hce455
       have HR455_0 := Aside0.mk hi455_0
       have HC455_0 := Aside0.mk hl455_0
       clear hi455_0 hl455_0
       replace p455 := eq_true p455
       replace q455 := eq_true q455
       go_wp2_with (first | ((with_reducible refine ax (f := 32) rfl ?_); refine zc 45 Tryz.func32 #[.slice A455_0 (ai t437 x32_1).length c455_0] ?_; (with_reducible refine (cI k1 _ _ (ai t437 x32_1) t456 _ ?side1 ?side2 A27.out).mono ?_); (case side1 => repeat (first | exact (by repeat (first | (with_reducible exact HR455_0.out) | (with_reducible refine Kd.C_alloc ?_ _) | (with_reducible refine Kd.C_drewN ?_ _) | (with_reducible refine Kd.C_drew ?_) | exact HR455_0.out)) | (with_reducible refine Kd.C_alloc ?_ _) | (with_reducible refine Kd.C_drewN ?_ _) | (with_reducible refine Kd.C_drew ?_))); (case side2 => exact HC455_0.out); rintro e w' ⟨rfl, ⟨nd, rfl⟩⟩; refine ⟨_, rfl, ?_⟩))
       go_roundg k1
       case measure => have := HK1.out; omega
       case rel => exact ⟨(Go.bits .and .u64 x9_1 t456), (wrap64 (x32_1 + 1)), (by first | rfl | (simp; done) | (simp [*]; done)), (by first | rfl | (simp; done) | (simp [*]; done)), H', ⟨by have := HK1.out; omega⟩, ⟨zR HO_30.out⟩, ⟨by (with_reducible repeat (first | apply Kd.S_alloc | apply Kd.S_drewN | apply Kd.S_drew)); exact HO_445000.out⟩, ⟨zR HO_445001.out⟩, ⟨zK BK436.out⟩, ⟨zK BK444.out⟩, ⟨zB⟩⟩
     · rw [if_neg c25] at H
       have c25b0 : decide (0 ≤ (rd t451 x32_1)) = false := ao c25
       clear c25
       have H' := Aside0.mk H
       clear H
       have p454 : 0 ≤ (x32_1 : Int) := ac zA
       have q454 : x32_1 < (t451.length : Int) := ac zA
       obtain ⟨ad454, e454, hx454_0⟩ := Kd.at_int (Kd.R_reads' HO_30.out).2.2 x32_1 p454 q454
       cases e454
       replace p454 := eq_true p454
       replace q454 := eq_true q454
       go_wp2
       go_roundg k1
       case measure => have := HK1.out; omega
       case rel => exact ⟨(x9_1), (wrap64 (x32_1 + 1)), (by first | rfl | (simp; done) | (simp [*]; done)), (by first | rfl | (simp; done) | (simp [*]; done)), H', ⟨by have := HK1.out; omega⟩, ⟨zR HO_30.out⟩, ⟨by (with_reducible repeat (first | apply Kd.S_alloc | apply Kd.S_drewN | apply Kd.S_drew)); exact HO_445000.out⟩, ⟨zR HO_445001.out⟩, ⟨zK BK436.out⟩, ⟨zK BK444.out⟩, ⟨zB⟩⟩
   · rw [if_neg c22] at H
     have c22b0 : decide (x32_1 < (t451.length : Int)) = false := ao c22
     clear c22
     replace H := av H
     obtain ⟨t457, A300, H⟩ := H
     have A30 := Aside0.mk A300
     clear A300
     obtain rfl := ap H
     go_wp2_with (first | ((with_reducible refine ax (f := 33) rfl ?_); refine zc 49 Tryz.func33 #[.int .u64 x9_1] ?_; (with_reducible refine (iy k1 x9_1 t457 _ A30.out).mono ?_); rintro e w31 ⟨v458, rfl, ho0, hb⟩; refine ⟨_, rfl, ?_⟩; replace HO_445000 := zM (Kd.S_elder' (by (with_reducible repeat (first | apply Kd.S_alloc | apply Kd.S_drewN | apply Kd.S_drew)); exact HO_445000.out) (Kd.R_base ho0) hb); replace HO_445001 := zM (Kd.R_below (zR HO_445001.out) hb); have HO459 := zM (Kd.R_lower (Kd.R_new' ho0 (Kd.R_lt (zR HO_30.out))) (am zB)); replace HO_30 := zM (Kd.R_elder' (zR HO_30.out) (Kd.R_base ho0) hb); replace BK436 := zJ BK436 hb; replace BK444 := zJ BK444 hb; replace HB := zM (ag zB hb); (try clear hb); (try clear ho0)))
     go_ret
     exact ⟨_, by first | rfl | (simp [al, ak] <;> rfl) | (simp [*, al, ak] <;> rfl), by (with_reducible repeat (first | apply Kd.R_alloc | apply Kd.R_drewN | apply Kd.R_drew)); exact Kd.R_mono HO459.out (fun _ hk => trivial), zB⟩
def fi (k : Nat) (a : Int) (e : List S63) : Int → List Int → Option Int
 | out, [] => some out
 | out, x :: t => (gP k a e x).bind fun nb => (bV k nb).bind fun b => fi k a e (Go.bits .or .u64 out b) t
def fL (out x : Int) (row : List Int) : List Int := row.filter fun y => !(aA out x || aA out y)
def aN (out : Int) : Nat → List (List Int) → List (List Int)
 | _, [] => []
 | x, r :: t => fL out (x : Int) r :: aN out (x + 1) t
def fh (k : Nat) (out : Int) (l1 l2 : List Int) : List (List Int) → Option (Bool × Bool)
 | [] => some (true, true)
 | p :: t => (bV k p).bind fun pb => (bV k l1).bind fun ab => (d4 (Go.bits .and .u64 (Go.bits .andNot .u64 pb out) ab)).bind fun s1 =>
  (bV k l2).bind fun bb => (d4 (Go.bits .and .u64 (Go.bits .andNot .u64 pb out) bb)).bind fun s2 => if s1 = s2 then fh k out l1 l2 t else some (false, true)
def fH (z : List (List Int)) : Bool := decide (z.length ≤ 1048576) && z.all fun r => decide (r.length ≤ 1048576) && r.all fun y => decide (0 ≤ y)
def eK (k : Nat) (a : Int) (e : List S63) (l1 l2 : List Int) : Option (Bool × Bool) :=
 (dX k a e l1 l2).bind fun t1 => if t1 = true then ((eJ k a e).bind fun t2 => if t2 = true then (if l1.length = l2.length then
  ((d8 k a e l1).bind fun h1 => (bV k h1).bind fun b1 => (d8 k a e l2).bind fun h2 => (bV k h2).bind fun b2 => if b1 = b2 then
   ((eH k b1).bind fun ls => (fi k a e b1 ls).bind fun out => (gO k a e).bind fun z => if fH z = true then ((fN k (aN out 0 z) (-1)).bind fun ps => fh k out l1 l2 ps) else none)
  else some (false, true)) else some (false, false)) else some (false, false)) else some (false, false)
theorem nT (g j : Nat) : (⟨g, 0, none⟩ : Addr).add j = ⟨g, j, none⟩ := by
 unfold Addr.add
 split <;> simp_all
theorem mW {W W1 : World} {g : Nat} (h : W.grownBy W1 (some g)) : Kept W W1 (fun k => k = g) := ⟨h.size, fun i hi hn => h.block i hi (fun e => hn (by injection e))⟩
theorem fM {w W W2 : World} {S : Nat → Prop} (h : Kept w W S) (k : Kept W W2 S) : Kept w W2 S := Kept.then_ h k (fun _ hk => .inl hk)
theorem uC {base g n cap : Nat} {ok : Nat → Prop} (m : Nat) : ∀ (i : Nat) (D : List Int) (w0 W : World), i + m = n → Below base w0 W → (Kd.int .i64).R 3 W base ok (.slice (some ⟨g, 0, none⟩) n cap) D →
  ∃ D', D'.length = D.length ∧ D'.take i = D.take i ∧ (Kd.int .i64).R 3 (W.setCells g i (List.replicate m (.int .i64 0))) base ok (.slice (some ⟨g, 0, none⟩) n cap) D' ∧ Below base w0 (W.setCells g i (List.replicate m (.int .i64 0))) ∧ Kept W (W.setCells g i (List.replicate m (.int .i64 0))) (fun k => k = g) := by
 induction m with
 | zero => intro i D w0 W hi hb h; exact ⟨D, rfl, rfl, h, hb, Kept.refl _ _⟩
 | succ m ih =>
  intro i D w0 W hi hb h
  have hn := (Kd.R_reads' h).1
  obtain ⟨c, hcl, hM, hcc, _⟩ := Kd.R_elem h (0 : Int) (i : Int) (by omega) (by omega)
  have hs : ((i : Int).toNat * (Kd.int .i64).sz + 0) = i := by
   show (i : Int).toNat * 1 + 0 = i
   omega
  have hM2 : (Kd.int .i64).M W base (fun k => ok k ∧ k ≠ g) (0 : Int) (c.take 0 ++ [.int .i64 0] ++ c.drop (0 + 1)) := by
   have hl : c.length = 1 := hcl
   rw [List.take_zero, List.nil_append, List.drop_eq_nil_of_le (by omega), List.append_nil]
   exact rfl
  have hseg := Kd.R_seg h (i : Int) (by omega) (by omega) (seg := [.int .i64 0]) (j := 0) hcl hcc (by show 0 + 1 ≤ 1; omega) hM2 (fun k hk => hk)
  rw [hs] at hseg
  have hbg : base ≤ g := Kd.R_base h g (by simp [Value.ownBlock])
  have hB : Below base w0 (W.setCells g i [.int .i64 0]) := hb.trans ⟨hseg.2.os, hseg.2.tape, hseg.2.output, hseg.2.size, fun k hk => by
   have hlt : k < W.heap.size ∨ W.heap.size ≤ k := Nat.lt_or_ge _ _
   rcases hlt with hlt | hge
   · exact hseg.2.block k hlt (fun he => by injection he with he; omega)
   · exact fd [.int .i64 0] _ k (by omega)⟩
  obtain ⟨D', l1, l2, l3, l4, l5⟩ := ih (i + 1) (D.set (i : Int).toNat 0) w0 _ (by omega) hB hseg.1
  refine ⟨D', by rw [l1, List.length_set], ?_, l3, l4, fM (mW hseg.2) l5⟩
  have := congrArg (List.take i) l2
  rw [List.take_take, List.take_take, Nat.min_eq_left (by omega)] at this
  rw [this, Int.toNat_natCast, List.take_set_of_le (ar i)]
def nY (g : Nat) (lb : Array Value) (p : Int → Bool) (t : List Int) (w : World) (S : Nat → Prop) : Prop :=
 ∀ (W : World) (x : Int), x ∈ t → Kept w W S → Calls Tryz.prog g (#[.int .i64 x] ++ lb) W fun e w' => e = .returned (.bool (p x)) ∧ Below W.heap.size W w'
def dH (p : Int → Bool) : List Int → Nat → Int
 | [], _ => -1
 | s :: t, n => if p s = true then (n : Int) else dH p t (n + 1)
theorem nk (p : Int → Bool) : ∀ (t : List Int) (n : Nat), (∀ s ∈ t, p s = false) → dH p t n = -1
 | [], _, _ => rfl
 | s :: t, n, h => by
  rw [dH, if_neg (by rw [h s (List.mem_cons_self ..)]; decide)]
  exact nk p t (n + 1) (fun s hs => h s (List.mem_cons_of_mem _ hs))
theorem nj (p : Int → Bool) : ∀ (t : List Int) (n : Nat), ¬ (∀ s ∈ t, p s = false) → ∃ k, ∃ hk : k < t.length, dH p t n = ((n + k : Nat) : Int) ∧ p t[k] = true ∧ ∀ j, (hj : j < k) → p (t[j]'(by omega)) = false
 | [], _, h => absurd (fun s hs => absurd hs (by simp)) h
 | s :: t, n, h => by
  cases hs : p s with
  | true => exact ⟨0, by simp, by rw [dH, if_pos hs]; rfl, hs, fun j hj => absurd hj (Nat.not_lt_zero _)⟩
  | false =>
   obtain ⟨k, hk, e, h1, h2⟩ := nj p t (n + 1) (fun h2 => h (fun x hx => by
    rcases List.mem_cons.1 hx with rfl | hx
    · exact hs
    · exact h2 x hx))
   refine ⟨k + 1, by simpa using hk, by rw [dH, if_neg (by rw [hs]; decide), e]; omega, by simpa using h1, fun j hj => ?_⟩
   cases j with
   | zero => exact hs
   | succ j => simpa using h2 j (by omega)
set_option maxHeartbeats 2000000 in
theorem m5 (g : Nat) (lb : Array Value) (eg : ∀ (args : Array Value) (w : World), (callFunc g args).run Tryz.prog w = .ok (.enter g args) w) (p : Int → Bool) (t : List Int) (S : Nat → Prop) (A : Option Addr) (c : Nat) (w : World) (hp : nY g lb p t w S)
  (hr : Kd.C (Kd.int .i64) w A t.length t) (hc : t.length ≤ c) (ht : t.length ≤ 1048576) :
  Calls Tryz.prog 59 #[.slice A t.length c, .func (.func g) #[] lb] w fun e w' => e = .returned (.int .i64 (dH p t 0)) ∧ Below w.heap.size w w' := by
 have HX := zM hp
 have HR := zM hr
 have HC := zM hc
 have HL := zM ht
 have HB := zM (Below.refl w.heap.size w)
 clear hp hr hc ht
 obtain ⟨z, hz⟩ : ∃ z, dH p t 0 = z := ⟨_, rfl⟩
 rw [hz]
 have HZ := zM hz
 clear hz
 go_enter Tryz.func59, Tryz.ntmps59
 go_wp2
 go_loopg [5, 8] (t.length + 1) (fun kq v5 v8 w' => ∃ (m : Nat), v8 = .int .i64 m ∧ Aside0 (m ≤ t.length) ∧ Aside0 (kq = t.length - m + 1) ∧ Aside0 (dH p (t.drop m) m = z) ∧ Aside0 (Below w.heap.size w w'))
 case atStart => exact ⟨0, rfl, ⟨Nat.zero_le _⟩, ⟨by omega⟩, ⟨by rw [List.drop_zero]; exact HZ.out⟩, HB⟩
 case round =>
  clear HB
  obtain ⟨m, rfl, HM, HK1, HI, HB⟩ := hrel
  by_cases c1 : m < t.length
  · have p1 : (0 : Int) ≤ (m : Int) := by omega
    have q1 : (m : Int) < (t.length : Int) := by omega
    obtain ⟨ad, e1, hx0⟩ := Kd.at_int HR.out (m : Int) p1 q1
    cases e1
    replace hx0 := (HB.out.cell (aj w _ hx0)).trans hx0
    rw [Int.toNat_natCast] at hx0
    have hg1 : rd t (m : Int) = t[m] := by simp [rd, List.getD_eq_getElem?_getD, List.getElem?_eq_getElem c1]
    rw [hg1] at hx0
    have HT := zM (show t[m] ∈ t from List.getElem_mem c1)
    have hst := HI.out
    rw [List.drop_eq_getElem_cons c1, dH] at hst
    generalize t[m] = s at hx0 HT hst
    have HC1 := zM c1
    have c1b : decide ((m : Int) < (t.length : Int)) = true := af q1
    have c1c : decide (m < t.length) = true := af c1
    have hw1 : (m : Int) + 1 ≤ 9223372036854775807 := by have := HL.out; omega
    have hcall := HX.out _ s HT.out (Kept.of_below HB.out S)
    have HCL := zM hcall
    replace p1 := eq_true p1
    replace q1 := eq_true q1
    clear c1 hg1 hcall
    cases hq : p s with
    | true =>
     rw [if_pos hq] at hst
     rw [hq] at HCL
     have HST := zM hst
     clear hq hst
     go_wp2_with (go_at_fn g; refine HCL.out.mono ?_; rintro e w6 ⟨rfl, hb⟩; replace HB := zM (ag HB.out hb); clear hb)
     go_ret
     exact ⟨by rw [← HST.out]; rfl, HB.out⟩
    | false =>
     rw [if_neg (by rw [hq]; decide)] at hst
     rw [hq] at HCL
     have HST := zM hst
     clear hq hst
     go_wp2_with (go_at_fn g; refine HCL.out.mono ?_; rintro e w6 ⟨rfl, hb⟩; replace HB := zM (ag HB.out hb); clear hb)
     go_roundg (t.length - m)
     case measure => have := HK1.out; have := HC1.out; omega
     case rel => exact ⟨m + 1, by first | rfl | (simp; done) | go_num, ⟨by have := HC1.out; omega⟩, ⟨by have := HC1.out; omega⟩, HST, HB⟩
  · have q1 : ¬ (m : Int) < (t.length : Int) := by omega
    have c1b : decide ((m : Int) < (t.length : Int)) = false := ao q1
    have c1c : decide (m < t.length) = false := ao c1
    have hst := HI.out
    rw [List.drop_eq_nil_of_le (by omega), dH] at hst
    have HST := zM hst
    clear hst HI c1 q1
    go_wp2
    go_ret
    exact ⟨by rw [← HST.out]; rfl, HB.out⟩
theorem oB {W w0 : World} {base g n cap : Nat} {P0_ : Nat → Prop} {D : List Int} (HO : (Kd.int .i64).R 3 W base P0_ (.slice (some ⟨g, 0, none⟩) n cap) D) (i : Nat) (hi : i < n) (x : Int) (HB : Below base w0 W) {ops : Array Oper} {rest : List Oper} {o : Oper} {a : Act} {Q : Exit → Act → World → Prop} (p q : Operand) (ho : o.op = .store 3 p q) (hN : o.dst = none) (hgd : o.guard = none)
   (haddr : a.eval p = .pointer (some ⟨g, i, none⟩)) (hx : a.eval q = .int .i64 x)
   (h : ∀ w1, (Kd.int .i64).R 3 w1 base P0_ (.slice (some ⟨g, 0, none⟩) n cap) (D.set i x) → Below base w0 w1 → Kept W w1 (fun k => k = g) → wpList Tryz.prog ops Q rest a w1) : wpList Tryz.prog ops Q (o :: rest) a W := by
 obtain ⟨co, hcl, hM0, hcc, _⟩ := Kd.R_elem HO (0 : Int) (i : Int) (by omega) (by omega)
 have hl : co.length = 1 := hcl
 refine Kd.R_store (Kd.int .i64) (w0 := w0) base hN hgd 3 p q ho 3 (o' := i) (i : Int) 0 D x (.int .i64 x) [.int .i64 x] co P0_ (fun k => P0_ k ∧ k ≠ g) haddr ?_ hx rfl ?_ ?_ HO (by omega) (by omega) hcl hcc ?_ ?_ (fun _ hk => hk) HB ?_
 · show i = (i : Int).toNat * 1 + 0
   omega
 · kernel_rfl
 · intro q hq
   rw [List.mem_singleton.1 hq]
   rfl
 · exact ar 1
 · rw [List.take_zero, List.nil_append, List.drop_eq_nil_of_le (by rw [hl]; exact ar 1), List.append_nil]
   exact rfl
 · intro w1 h1 h2 h3
   rw [Int.toNat_natCast] at h1
   exact h w1 h1 h2 (mW h3)
set_option maxHeartbeats 4000000 in
theorem tB (g : Nat) (lb : Array Value) (eg : ∀ (args : Array Value) (w : World), (callFunc g args).run Tryz.prog w = .ok (.enter g args) w) (p : Int → Bool) (t : List Int) (P0_ : Nat → Prop) (v : Value) (w0 w : World) (hp : nY g lb p t w P0_) (hB : Below w0.heap.size w0 w)
   (ho : (Kd.int .i64).R 3 w w0.heap.size P0_ v t) (ht : t.length ≤ 1048576) :
   Calls Tryz.prog 36 #[v, .func (.func g) #[] lb] w fun e w' => ∃ v', e = .returned v' ∧ (Kd.int .i64).R 3 w' w0.heap.size P0_ v' (t.filter (fun s => !p s)) ∧ Below w0.heap.size w0 w' ∧ Kept w w' P0_ := by
 by_cases hn : ∀ s ∈ t, p s = false
 · have hf : t.filter (fun s => !p s) = t := List.filter_eq_self.2 (fun s hs => by rw [hn s hs]; rfl)
   rw [hf]
   obtain ⟨A, c, rfl⟩ := Kd.R_slice ho
   have hI := m5 g lb eg p t P0_ A c w hp (Kd.R_reads' ho).2.2 (Kd.R_reads' ho).2.1 ht
   rw [nk p t 0 hn] at hI
   have HI := zM hI
   have HB := zM hB
   have HO := zM ho
   have HK := zM (Kept.refl w P0_)
   clear hI hn hf hB ho hp ht
   go_enter Tryz.func36, Tryz.ntmps36
   go_wp2_with (go_at_call 59; refine HI.out.mono ?_; rintro e w1 ⟨rfl, hb⟩; replace HO := zM (Kd.R_below HO.out hb); replace HB := zM (ag HB.out hb); replace HK := zM (fM HK.out (Kept.of_below hb P0_)); clear hb)
   go_ret
   exact ⟨_, by first | rfl | (simp; done), HO.out, HB.out, HK.out⟩
 · obtain ⟨k0, hk0, he, hk1, hk2⟩ := nj p t 0 hn
   rw [Nat.zero_add] at he
   obtain ⟨g0, c, rfl, hgb, hgl, hcells⟩ := Kd.R_form ho (by omega)
   have hI := m5 g lb eg p t P0_ _ c w hp (Kd.R_reads' ho).2.2 (Kd.R_reads' ho).2.1 ht
   rw [he] at hI
   have HI := zM hI
   have HX := zM hp
   have HL := zM ht
   have HB := zM hB
   have HCP := zM ((Kd.R_reads' ho).2.1 : t.length ≤ c)
   have HOK := zM (show P0_ g0 from ho.1 g0 (by simp [Value.ownBlock]))
   have HO := zM ho
   have HKT := zM (Kept.refl w P0_)
   have hz0 : (t.take (k0 + 1)).filter (fun s => !p s) = t.take k0 := by
    rw [List.take_succ_eq_append_getElem hk0, List.filter_append]
    have e2 : [t[k0]].filter (fun s => !p s) = [] := by simp [hk1]
    rw [e2, List.append_nil]
    refine List.filter_eq_self.2 (fun x hx => ?_)
    obtain ⟨i, hi, rfl⟩ := List.getElem_of_mem hx
    rw [List.length_take] at hi
    rw [List.getElem_take, hk2 i (by omega)]
    rfl
   have HZ0 := zM hz0
   have HK := zM hk0
   have hz : ∀ w : World, (zeroValue 3).run Tryz.prog w = .ok (.int .i64 0) w := fun w => by go_simp
   have HZV := zM hz
   have hne : ((k0 : Int) == -1) = false := beq_eq_false_iff_ne.mpr (by omega)
   have hne2 : decide ((k0 : Int) = -1) = false := ao (by omega)
   have hw0 : (k0 : Int) + 1 ≤ 9223372036854775807 := by omega
   clear hI hp ht hB hgb hgl hcells ho hk0 hk1 hk2 hn he hz0 hz
   go_enter Tryz.func36, Tryz.ntmps36
   go_wp2_with (go_at_call 59; refine HI.out.mono ?_; rintro e w1 ⟨rfl, hb⟩; replace HO := zM (Kd.R_below HO.out hb); replace HB := zM (ag HB.out hb); replace HKT := zM (fM HKT.out (Kept.of_below hb P0_)); clear hb)
   clear HI
   go_loopg [5, 6, 7] (t.length + 1) (fun kq v5 v6 v7 w' => ∃ (i j : Nat) (D : List Int), v5 = .int .i64 (i : Int) ∧ v6 = .int .i64 (j : Int) ∧ Aside0 (i < j) ∧ Aside0 (j ≤ t.length) ∧ Aside0 (t.length - j + 1 ≤ kq) ∧ Aside0 (D.take i = (t.take j).filter (fun s => !p s)) ∧ Aside0 (D.drop j = t.drop j) ∧ Aside0 (D.length = t.length) ∧ Aside0 ((Kd.int .i64).R 3 w' w0.heap.size P0_ (.slice (some ⟨g0, 0, none⟩) t.length c) D) ∧ Aside0 (Below w0.heap.size w0 w') ∧ Aside0 (Kept w w' P0_))
   case atStart => exact ⟨k0, k0 + 1, t, rfl, by first | rfl | (simp; done) | go_num, ⟨by omega⟩, ⟨by have := HK.out; omega⟩, ⟨by have := HK.out; omega⟩, ⟨HZ0.out.symm⟩, ⟨rfl⟩, ⟨rfl⟩, HO, HB, HKT⟩
   case round =>
    clear HO HB HKT HZ0 hne hne2 hw0
    obtain ⟨i, j, D, rfl, rfl, HIJ, HJ, HK1, HT, HD, HDL, HO, HB, HKT⟩ := hrel
    have p2 : (0 : Int) ≤ (i : Int) := by omega
    have q2 : (i : Int) < (t.length : Int) := by have := HIJ.out; have := HJ.out; omega
    by_cases c1 : j < t.length
    · have q1 : (j : Int) < (t.length : Int) := by omega
      have c1b : decide ((j : Int) < (t.length : Int)) = true := af q1
      have c1c : decide (j < t.length) = true := af c1
      have p1 : (0 : Int) ≤ (j : Int) := by omega
      have hw1 : (j : Int) + 1 ≤ 9223372036854775807 := by have := HL.out; omega
      have hw2 : (i : Int) + 1 ≤ 9223372036854775807 := by have := HL.out; omega
      have hDj : D[j]? = some t[j] := by
       have h1 := congrArg (fun l => l[0]?) HD.out
       simp only [List.getElem?_drop, Nat.add_zero] at h1
       rw [h1, List.getElem?_eq_getElem c1]
      have hTj : t.take (j + 1) = t.take j ++ [t[j]] := List.take_succ_eq_append_getElem c1
      have HM := zM (show t[j] ∈ t from List.getElem_mem c1)
      have hx1 : wr.cell? ⟨g0, j, none⟩ = some (.int .i64 t[j]) := by
       obtain ⟨ad, e1, hx0⟩ := Kd.at_int (Kd.R_reads' HO.out).2.2 (j : Int) p1 (by rw [HDL.out]; exact q1)
       cases e1
       rw [Int.toNat_natCast] at hx0
       have hg1 : rd D (j : Int) = t[j] := by simp [rd, List.getD_eq_getElem?_getD, hDj]
       rw [hg1] at hx0
       rw [nT] at hx0
       exact hx0
      have HTJ := zM hTj
      generalize t[j] = s at hx1 HM HTJ
      have hcall := HX.out _ s HM.out HKT.out
      have HCL := zM hcall
      have HC1 := zM c1
      replace p1 := eq_true p1
      replace q1 := eq_true q1
      replace p2 := eq_true p2
      replace q2 := eq_true q2
      have q3 : (i < t.length) = True := eq_true (by have := HIJ.out; have := HC1.out; omega)
      clear c1 hDj hTj hcall
      cases hq : p s with
      | true =>
       rw [hq] at HCL
       have HT2 := zM (show D.take i = (t.take (j + 1)).filter (fun s => !p s) by
        rw [HTJ.out, List.filter_append, ← HT.out]
        have e2 : [s].filter (fun s => !p s) = [] := by simp [hq]
        rw [e2, List.append_nil])
       have HD2 := zM (show D.drop (j + 1) = t.drop (j + 1) by
        have := congrArg (List.drop 1) HD.out
        rw [List.drop_drop, List.drop_drop] at this
        exact this)
       clear hq
       go_wp2_with (go_at_fn g; refine HCL.out.mono ?_; rintro e w6 ⟨rfl, hb⟩; replace HO := zM (Kd.R_below HO.out hb); replace HKT := zM (fM HKT.out (Kept.of_below hb P0_)); replace HB := zM (ag HB.out hb); clear hb)
       go_roundg (t.length - j)
       case measure => have := HK1.out; have := HC1.out; omega
       case rel => exact ⟨i, j + 1, D, rfl, by first | rfl | (simp; done) | go_num, ⟨by have := HIJ.out; omega⟩, ⟨by have := HC1.out; omega⟩, ⟨by have := HC1.out; omega⟩, HT2, HD2, HDL, HO, HB, HKT⟩
      | false =>
       rw [hq] at HCL
       obtain ⟨D2, hD2⟩ : ∃ D2, D.set i s = D2 := ⟨_, rfl⟩
       have hil : i < D.length := by rw [HDL.out]; have := HIJ.out; have := HC1.out; omega
       have HT2 := zM (show D2.take (i + 1) = (t.take (j + 1)).filter (fun s => !p s) by
        rw [HTJ.out, List.filter_append, ← HT.out]
        have e2 : [s].filter (fun s => !p s) = [s] := by simp [hq]
        rw [e2, ← hD2, List.take_succ_eq_append_getElem (by rw [List.length_set]; exact hil), List.take_set_of_le (ar i), List.getElem_set_self])
       have HD2 := zM (show D2.drop (j + 1) = t.drop (j + 1) by
        have := congrArg (List.drop 1) HD.out
        rw [List.drop_drop, List.drop_drop] at this
        rw [← hD2, List.drop_set_of_lt (by have := HIJ.out; omega)]
        exact this)
       have HDL2 := zM (show D2.length = t.length by rw [← hD2, List.length_set]; exact HDL.out)
       have HE2 := zM hD2
       clear hq hD2 hil
       go_wp2_with (first
        | (go_at_fn g; refine HCL.out.mono ?_; rintro e w6 ⟨rfl, hb⟩; replace HO := zM (Kd.R_below HO.out hb); replace HKT := zM (fM HKT.out (Kept.of_below hb P0_)); replace HB := zM (ag HB.out hb); clear hb hx1)
        | ((with_reducible refine sw (.store 3 (.tmp 33) (.tmp 32)) rfl ?_); refine oB HO.out i (of_eq_true q3) s HB.out (.tmp 33) (.tmp 32) rfl rfl rfl rfl rfl ?_; intro w7 ho hb hkk; rw [HE2.out] at ho; replace HO := zM ho; replace HB := zM hb; replace HKT := zM (fM HKT.out (Kept.mono hkk (fun k e_ => by rw [e_]; exact HOK.out))); clear ho hb hkk))
       go_roundg (t.length - j)
       case measure => have := HK1.out; have := HC1.out; omega
       case rel => exact ⟨i + 1, j + 1, D2, by first | rfl | (simp; done) | go_num, by first | rfl | (simp; done) | go_num, ⟨by have := HIJ.out; omega⟩, ⟨by have := HC1.out; omega⟩, ⟨by have := HC1.out; omega⟩, HT2, HD2, HDL2, HO, HB, HKT⟩
    · have hj : j = t.length := by have := HJ.out; omega
      have c1b : decide ((j : Int) < (t.length : Int)) = false := ao (by omega)
      have c1c : decide (j < t.length) = false := ao c1
      have hil : i < t.length := by have := HIJ.out; omega
      obtain ⟨D', l1, l2, l3, l4, l5⟩ := uC (t.length - i) i D w0 wr (by omega) HB.out HO.out
      have HS := zM (show (Kd.int .i64).R 3 _ w0.heap.size P0_ (.slice (some ⟨g0, 0, none⟩) i c) (t.filter (fun s => !p s)) by
       have h3 := Kd.R_take l3 (m := i) (by rw [l1, HDL.out]; omega)
       rw [l2, HT.out, hj, List.take_of_length_le (ar _)] at h3
       exact h3)
      have HB2 := zM l4
      have HK2 := zM (fM HKT.out (Kept.mono l5 (fun k e_ => by rw [e_]; exact HOK.out)))
      have hcl := fun ty => Lib.run_clear_slice (P := Tryz.prog) wr 25 3 ty (.int .i64 0) Tryz.underlying25 HZV.out rfl rfl g0 i (t.length - i) (c - i) (by omega) (fun x hx => by
       obtain ⟨ad, e1, hx0⟩ := Kd.at_int (Kd.R_reads' HO.out).2.2 ((i + x : Nat) : Int) (by omega) (by rw [HDL.out]; omega)
       cases e1
       rw [Int.toNat_natCast] at hx0
       have hx1 : wr.cell? ⟨g0, i + x, none⟩ = some (.int .i64 (rd D ((i + x : Nat) : Int))) := by rw [nT] at hx0; exact hx0
       rw [hx1]; rfl) (fun x hx => by
       obtain ⟨c0, _, _, _, hf⟩ := Kd.R_elem HO.out (0 : Int) ((i + x : Nat) : Int) (by omega) (by omega)
       have h2 := hf 0
       have hs : (((i + x : Nat) : Int).toNat * (Kd.int .i64).sz + 0) = i + x := by
        show ((i + x : Nat) : Int).toNat * 1 + 0 = i + x
        omega
       rw [hs] at h2
       exact h2)
      have p3 : ((i : Int) ≤ (t.length : Int)) := by omega
      have p4 : i ≤ t.length := by omega
      have p5 : ((i : Int) ≤ (c : Int)) := by have := HCP.out; omega
      have p6 : i ≤ c := by have := HCP.out; omega
      have p7 : t.length ≤ c := HCP.out
      have p8 : i < c := by omega
      have p9 : ¬ c = i := by omega
      have p10 : ¬ i = c := by omega
      have p11 : (c - i = 0) = False := eq_false (by omega)
      have p12 : (c == i) = false := beq_eq_false_iff_ne.mpr p9
      have p13 : (i == c) = false := beq_eq_false_iff_ne.mpr p10
      clear l1 l2 l3 l4 l5 hil HO HB HD HT HX c1 hj p2 q2
      go_wp2
      go_ret
      exact ⟨_, by first | rfl | (simp; done), HS.out, HB2.out, HK2.out⟩
end Go.Proofs.YtjgcehldepfaaaaGreat.P
