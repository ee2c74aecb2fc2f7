import Derived.Test.YtadjbmcfgjmhkaaGreatAddWalkG22
namespace Go.Proofs.YtadjbmcfgjmhkaaGreat.P
open Go.RowKit YtadjbmcfgjmhkaaGreatW.PrintWords YtadjbmcfgjmhkaaGreatW.PrintLast YtadjbmcfgjmhkaaGreatW.PrintMore
attribute [local go_sem] aZ aV aW aQ aX aT aY aU
set_option maxRecDepth 100000
set_option maxHeartbeats 8000000
set_option linter.unusedVariables false
set_option linter.unusedSimpArgs false
def jL (a0 : Int) : Option (Int) := some (Go.bits .and .i64 (wrap64 (IntKind.u64.wrap ((IntKind.u64.wrap ((IntKind.u64.wrap ((Go.bits .and .u64 (IntKind.u64.wrap (((IntKind.u64.wrap ((Go.bits .and .u64 ((IntKind.u64.wrap ((Go.bits .and .u64 (a0 / 2) 6148914691236517205) + (Go.bits .and .u64 a0 6148914691236517205))) / 4) 3689348814741910323) + (Go.bits .and .u64 (IntKind.u64.wrap ((Go.bits .and .u64 (a0 / 2) 6148914691236517205) + (Go.bits .and .u64 a0 6148914691236517205))) 3689348814741910323))) / 16) + (IntKind.u64.wrap ((Go.bits .and .u64 ((IntKind.u64.wrap ((Go.bits .and .u64 (a0 / 2) 6148914691236517205) + (Go.bits .and .u64 a0 6148914691236517205))) / 4) 3689348814741910323) + (Go.bits .and .u64 (IntKind.u64.wrap ((Go.bits .and .u64 (a0 / 2) 6148914691236517205) + (Go.bits .and .u64 a0 6148914691236517205))) 3689348814741910323))))) 1085102592571150095) + ((Go.bits .and .u64 (IntKind.u64.wrap (((IntKind.u64.wrap ((Go.bits .and .u64 ((IntKind.u64.wrap ((Go.bits .and .u64 (a0 / 2) 6148914691236517205) + (Go.bits .and .u64 a0 6148914691236517205))) / 4) 3689348814741910323) + (Go.bits .and .u64 (IntKind.u64.wrap ((Go.bits .and .u64 (a0 / 2) 6148914691236517205) + (Go.bits .and .u64 a0 6148914691236517205))) 3689348814741910323))) / 16) + (IntKind.u64.wrap ((Go.bits .and .u64 ((IntKind.u64.wrap ((Go.bits .and .u64 (a0 / 2) 6148914691236517205) + (Go.bits .and .u64 a0 6148914691236517205))) / 4) 3689348814741910323) + (Go.bits .and .u64 (IntKind.u64.wrap ((Go.bits .and .u64 (a0 / 2) 6148914691236517205) + (Go.bits .and .u64 a0 6148914691236517205))) 3689348814741910323))))) 1085102592571150095) / 256))) + ((IntKind.u64.wrap ((Go.bits .and .u64 (IntKind.u64.wrap (((IntKind.u64.wrap ((Go.bits .and .u64 ((IntKind.u64.wrap ((Go.bits .and .u64 (a0 / 2) 6148914691236517205) + (Go.bits .and .u64 a0 6148914691236517205))) / 4) 3689348814741910323) + (Go.bits .and .u64 (IntKind.u64.wrap ((Go.bits .and .u64 (a0 / 2) 6148914691236517205) + (Go.bits .and .u64 a0 6148914691236517205))) 3689348814741910323))) / 16) + (IntKind.u64.wrap ((Go.bits .and .u64 ((IntKind.u64.wrap ((Go.bits .and .u64 (a0 / 2) 6148914691236517205) + (Go.bits .and .u64 a0 6148914691236517205))) / 4) 3689348814741910323) + (Go.bits .and .u64 (IntKind.u64.wrap ((Go.bits .and .u64 (a0 / 2) 6148914691236517205) + (Go.bits .and .u64 a0 6148914691236517205))) 3689348814741910323))))) 1085102592571150095) + ((Go.bits .and .u64 (IntKind.u64.wrap (((IntKind.u64.wrap ((Go.bits .and .u64 ((IntKind.u64.wrap ((Go.bits .and .u64 (a0 / 2) 6148914691236517205) + (Go.bits .and .u64 a0 6148914691236517205))) / 4) 3689348814741910323) + (Go.bits .and .u64 (IntKind.u64.wrap ((Go.bits .and .u64 (a0 / 2) 6148914691236517205) + (Go.bits .and .u64 a0 6148914691236517205))) 3689348814741910323))) / 16) + (IntKind.u64.wrap ((Go.bits .and .u64 ((IntKind.u64.wrap ((Go.bits .and .u64 (a0 / 2) 6148914691236517205) + (Go.bits .and .u64 a0 6148914691236517205))) / 4) 3689348814741910323) + (Go.bits .and .u64 (IntKind.u64.wrap ((Go.bits .and .u64 (a0 / 2) 6148914691236517205) + (Go.bits .and .u64 a0 6148914691236517205))) 3689348814741910323))))) 1085102592571150095) / 256))) / 65536))) + ((IntKind.u64.wrap ((IntKind.u64.wrap ((Go.bits .and .u64 (IntKind.u64.wrap (((IntKind.u64.wrap ((Go.bits .and .u64 ((IntKind.u64.wrap ((Go.bits .and .u64 (a0 / 2) 6148914691236517205) + (Go.bits .and .u64 a0 6148914691236517205))) / 4) 3689348814741910323) + (Go.bits .and .u64 (IntKind.u64.wrap ((Go.bits .and .u64 (a0 / 2) 6148914691236517205) + (Go.bits .and .u64 a0 6148914691236517205))) 3689348814741910323))) / 16) + (IntKind.u64.wrap ((Go.bits .and .u64 ((IntKind.u64.wrap ((Go.bits .and .u64 (a0 / 2) 6148914691236517205) + (Go.bits .and .u64 a0 6148914691236517205))) / 4) 3689348814741910323) + (Go.bits .and .u64 (IntKind.u64.wrap ((Go.bits .and .u64 (a0 / 2) 6148914691236517205) + (Go.bits .and .u64 a0 6148914691236517205))) 3689348814741910323))))) 1085102592571150095) + ((Go.bits .and .u64 (IntKind.u64.wrap (((IntKind.u64.wrap ((Go.bits .and .u64 ((IntKind.u64.wrap ((Go.bits .and .u64 (a0 / 2) 6148914691236517205) + (Go.bits .and .u64 a0 6148914691236517205))) / 4) 3689348814741910323) + (Go.bits .and .u64 (IntKind.u64.wrap ((Go.bits .and .u64 (a0 / 2) 6148914691236517205) + (Go.bits .and .u64 a0 6148914691236517205))) 3689348814741910323))) / 16) + (IntKind.u64.wrap ((Go.bits .and .u64 ((IntKind.u64.wrap ((Go.bits .and .u64 (a0 / 2) 6148914691236517205) + (Go.bits .and .u64 a0 6148914691236517205))) / 4) 3689348814741910323) + (Go.bits .and .u64 (IntKind.u64.wrap ((Go.bits .and .u64 (a0 / 2) 6148914691236517205) + (Go.bits .and .u64 a0 6148914691236517205))) 3689348814741910323))))) 1085102592571150095) / 256))) + ((IntKind.u64.wrap ((Go.bits .and .u64 (IntKind.u64.wrap (((IntKind.u64.wrap ((Go.bits .and .u64 ((IntKind.u64.wrap ((Go.bits .and .u64 (a0 / 2) 6148914691236517205) + (Go.bits .and .u64 a0 6148914691236517205))) / 4) 3689348814741910323) + (Go.bits .and .u64 (IntKind.u64.wrap ((Go.bits .and .u64 (a0 / 2) 6148914691236517205) + (Go.bits .and .u64 a0 6148914691236517205))) 3689348814741910323))) / 16) + (IntKind.u64.wrap ((Go.bits .and .u64 ((IntKind.u64.wrap ((Go.bits .and .u64 (a0 / 2) 6148914691236517205) + (Go.bits .and .u64 a0 6148914691236517205))) / 4) 3689348814741910323) + (Go.bits .and .u64 (IntKind.u64.wrap ((Go.bits .and .u64 (a0 / 2) 6148914691236517205) + (Go.bits .and .u64 a0 6148914691236517205))) 3689348814741910323))))) 1085102592571150095) + ((Go.bits .and .u64 (IntKind.u64.wrap (((IntKind.u64.wrap ((Go.bits .and .u64 ((IntKind.u64.wrap ((Go.bits .and .u64 (a0 / 2) 6148914691236517205) + (Go.bits .and .u64 a0 6148914691236517205))) / 4) 3689348814741910323) + (Go.bits .and .u64 (IntKind.u64.wrap ((Go.bits .and .u64 (a0 / 2) 6148914691236517205) + (Go.bits .and .u64 a0 6148914691236517205))) 3689348814741910323))) / 16) + (IntKind.u64.wrap ((Go.bits .and .u64 ((IntKind.u64.wrap ((Go.bits .and .u64 (a0 / 2) 6148914691236517205) + (Go.bits .and .u64 a0 6148914691236517205))) / 4) 3689348814741910323) + (Go.bits .and .u64 (IntKind.u64.wrap ((Go.bits .and .u64 (a0 / 2) 6148914691236517205) + (Go.bits .and .u64 a0 6148914691236517205))) 3689348814741910323))))) 1085102592571150095) / 256))) / 65536))) / 4294967296)))) 127)
theorem sA (a0 : Int) (r : Int) (w : World) (h : jL a0 = some r) :
 Calls Tryz.prog 135 #[.int .u64 a0] w fun e w' => e = .returned (.int .i64 r) ∧ Drawn0 w w' := by
 have H := h
 unfold jL at H
 clear h
 obtain rfl := ao H
 go_enter Tryz.func135, Tryz.ntmps135
 go_wp2
 go_ret
 exact ⟨by first | rfl | (simp; done) | (simp [*]; done), by repeat (first | exact Drawn0.refl _ | apply Drawn0.step)⟩
def jM (a0 : Int) : Option (Int) := (jL a0).bind fun t266 => (some t266)
theorem sB (a0 : Int) (r : Int) (w : World) (h : jM a0 = some r) :
 Calls Tryz.prog 106 #[.int .u64 a0] w fun e w' => e = .returned (.int .i64 r) ∧ Below w.heap.size w w' := by
 have HB := zM (Below.refl w.heap.size w)
 have H := h
 unfold jM at H
 clear h
 replace H := ax H
 obtain ⟨t266, A20, H⟩ := H
 have A2 := Aside0.mk A20
 clear A20
 obtain rfl := ao H
 go_enter Tryz.func106, Tryz.ntmps106
 go_wp2_with (first | ((with_reducible refine ay (f := 135) rfl ?_); refine zc 7 Tryz.func135 #[.int .u64 a0] ?_; (with_reducible refine (sA a0 t266 _ A2.out).mono ?_); rintro e w' ⟨rfl, ⟨nd, rfl⟩⟩; refine ⟨_, rfl, ?_⟩))
 go_ret
 exact ⟨by first | rfl | (simp [al, ak] <;> rfl) | (simp [*, al, ak] <;> rfl), zB⟩
def eQ (a0 : Int) : Option (Int) := (jM a0).bind fun t267 => (some t267)
theorem ju (a0 : Int) (r : Int) (w : World) (h : eQ a0 = some r) :
 Calls Tryz.prog 89 #[.int .u64 a0] w fun e w' => e = .returned (.int .i64 r) ∧ Below w.heap.size w w' := by
 have HB := zM (Below.refl w.heap.size w)
 have H := h
 unfold eQ at H
 clear h
 replace H := ax H
 obtain ⟨t267, A20, H⟩ := H
 have A2 := Aside0.mk A20
 clear A20
 obtain rfl := ao H
 go_enter Tryz.func89, Tryz.ntmps89
 go_wp2_with (first | ((with_reducible refine ay (f := 106) rfl ?_); refine zc 4 Tryz.func106 #[.int .u64 a0] ?_; (with_reducible refine (sB a0 t267 _ A2.out).mono ?_); rintro e w3 ⟨rfl, hb⟩; refine ⟨_, rfl, ?_⟩; replace HB := zM (ah zB hb); (try clear hb); (try clear hi)))
 go_ret
 exact ⟨by first | rfl | (simp [al, ak] <;> rfl) | (simp [*, al, ak] <;> rfl), zB⟩
def ir (a0_0 : Int) (l0_1 : List (S69)) : Option (Int) := if 0 ≤ a0_0 then (some (IntKind.u64.wrap ((cN .u64 1 a0_0) - 1))) else (none)
theorem jy (a0_0 : Int) (A0_1 : Option Addr) (c0_1 : Nat) (l0_1 : List (S69)) (r : Int) (w : World) (hr0_1 : Kd.C k69 w A0_1 l0_1.length l0_1) (hc0_1 : l0_1.length ≤ c0_1) (h : ir a0_0 l0_1 = some r) :
 Calls Tryz.prog 122 #[.agg #[.int .i64 a0_0, .slice A0_1 l0_1.length c0_1]] w fun e w' => e = .returned (.int .u64 r) ∧ Below w.heap.size w w' := by
 have hu30 := Tryz.underlying30
 have HR0_1 := Aside0.mk hr0_1
 have HC0_1 := Aside0.mk hc0_1
 clear hr0_1 hc0_1
 have HB := zM (Below.refl w.heap.size w)
 have H := h
 unfold ir at H
 clear h
 by_cases c2 : 0 ≤ a0_0
 case neg => rw [if_neg c2] at H; simp at H
 rw [if_pos c2] at H
 have c2b0 := eq_true c2
 have c2b1 : decide (0 ≤ a0_0) = true := ag c2
 clear c2
 obtain ⟨ji3, hji3⟩ : ∃ j_ : Int, (cN .u64 1 a0_0) = j_ := ⟨_, rfl⟩
 replace H : (some (IntKind.u64.wrap ((ji3) - 1))) = some r := by first | (rw [hji3] at H; exact H) | (simp only [hji3] at H ⊢; exact H)
 have hji3_ : (IntKind.u64.wrap (1 * 2 ^ min a0_0.toNat 64)) = ji3 := hji3
 have hji3z : a0_0 ≤ 64 → (IntKind.u64.wrap (1 * 2 ^ a0_0.toNat)) = ji3 := iW hji3
 have hji3u : (IntKind.u64.wrap (2 ^ min a0_0.toNat 64)) = ji3 := by have h_ := hji3_; rw [Int.one_mul] at h_; exact h_
 have hji3v : a0_0 ≤ 64 → (IntKind.u64.wrap (2 ^ a0_0.toNat)) = ji3 := fun hle_ => by have h_ := hji3z hle_; rw [Int.one_mul] at h_; exact h_
 obtain rfl := ao H
 go_enter Tryz.func122, Tryz.ntmps122
 go_wp2_with (first | ((with_reducible refine ap (N := 1) rfl ?_); refine zb (w := w) 1 #[.int .i64 a0_0, .slice A0_1 l0_1.length c0_1] 30 zB ?_; clear HB; intro gb268 w4 HB BK268 GW268; have GE268 := GW268; have hcz5_0 := zy BK268 0; have hcz5_1 := zy BK268 1; have hfz5_0 := ae BK268.out 0; have hfz5_1 := ae BK268.out 1))
 go_ret
 exact ⟨by first | rfl | (simp [al, ak] <;> rfl) | (simp only [← hji3]; first | rfl | (simp [al, ak] <;> rfl)) | (simp [*, al, ak] <;> rfl), zB⟩
def cC : Nat → Int → List Int → Int → Option (List Int)
 | 0, _, _, _ => none
 | k + 1, x0, x3, x6 => if x6 < 8 then (if 0 ≤ x6 then (if (Go.bits .and .u64 (cM .u64 x0 x6) 1) = 1 then (if x3.length < 17592186044416 then (cC k x0 (x3 ++ [x6]) (wrap64 (x6 + 1))) else (none)) else (cC k x0 x3 (wrap64 (x6 + 1)))) else (none)) else (some x3)
def ip (k : Nat) (a0 : Int) : Option (List Int) := cC k a0 (([] : List Int)) 0
theorem qp (k : Nat) (a0 : Int) (r : List Int) (w : World) (h : ip k a0 = some r) :
 Calls Tryz.prog 76 #[.int .u64 a0] w fun e w' => ∃ v0_ : Value, e = .returned (v0_) ∧ Kd.R (Kd.int .i64) 3 w' w.heap.size (fun _ => True) v0_ r ∧ Below w.heap.size w w' := by
 have HB := zM (Below.refl w.heap.size w)
 have H := h
 unfold ip at H
 clear h
 obtain ⟨y269, hy269⟩ : ∃ y_ : List Int, y_ = (([] : List Int)) := ⟨_, rfl⟩
 replace H : (cC k a0 y269 0) = some r := by first | (rw [hy269]; with_reducible exact H) | (have H2_ := (Option.bind_some _ _).symm.trans H; rw [hy269]; with_reducible exact H2_) | (have H2_ := (Option.bind_some _ _).symm.trans H; with_reducible exact H2_) | with_reducible exact H | (rw [hy269]; exact H) | exact H
 have Ny269 := Aside0.mk hy269
 clear hy269
 have H' := Aside0.mk H
 clear H
 go_enter Tryz.func76, Tryz.ntmps76
 go_wp2_with (first | ((with_reducible refine ap (N := 5) rfl ?_); refine Kd.R_lit (Kd.int .i64) _ 3 ?hg (N := 5) ?hd (xs := ([] : List Int)) (inner := []) (ok := fun _ => True) (okp := fun _ => True) ?hr ?hp (fun _ hk => hk) trivial (Below.refl _ _) (au _) (by simp) ?_; (case hd => rfl); (case hg => rfl); (case hr => first | (go_simp; done) | (go_simp; rfl)); (case hp => exact (Reps.none _ _)); intro v270 w2 ho3 hb hg_ hnew_; clear hg_ hnew_; (first | rw [← Ny269.out] at ho3 | (simp only [Int.reduceToNat] at ho3; rw [← Ny269.out] at ho3)); have HO271 := zM (Kd.R_lower ho3 (ai zB)); replace HB := zM (ah zB hb); clear hb ho3))
 go_loopg [3, 6] k (fun kq v3 v6 w' => ∃ (x3_1 : List Int) (x6_1 : Int), v6 = .int .i64 x6_1 ∧ Aside0 (cC kq a0 x3_1 x6_1 = some r) ∧ Aside0 (kq ≤ k) ∧ Aside0 (Kd.R (Kd.int .i64) 3 w' w.heap.size (fun _ => True) v3 x3_1) ∧ Aside0 (Below w.heap.size w w'))
 case atStart => exact ⟨(y269), (0), (by first | rfl | (simp; done) | (simp [*]; done)), H', ⟨au _⟩, ⟨zR HO271.out⟩, ⟨zB⟩⟩
 case round =>
  clear H'
  try clear p2
  obtain ⟨x3_1, x6_1, rfl, HA, HK1, HO_3, HB⟩ := hrel
  cases gk with
  | zero => exact absurd HA.out (by simp [cC])
  | succ k1 =>
   have H := HA.out
   clear HA
   simp only [cC] at H
   by_cases c4 : x6_1 < 8
   · rw [if_pos c4] at H
     have c4b0 := ag c4
     clear c4
     by_cases c5 : 0 ≤ x6_1
     case neg => rw [if_neg c5] at H; simp at H
     rw [if_pos c5] at H
     have c5b0 := eq_true c5
     have c5b1 : decide (0 ≤ x6_1) = true := ag c5
     clear c5
     obtain ⟨ji6, hji6⟩ : ∃ j_ : Int, (cM .u64 a0 x6_1) = j_ := ⟨_, rfl⟩
     replace H : (if (Go.bits .and .u64 (ji6) 1) = 1 then (if x3_1.length < 17592186044416 then (cC k1 a0 (x3_1 ++ [x6_1]) (wrap64 (x6_1 + 1))) else (none)) else (cC k1 a0 x3_1 (wrap64 (x6_1 + 1)))) = some r := by first | (rw [hji6] at H; exact H) | (simp only [hji6] at H ⊢; exact H)
     have hji6_ : (a0 / 2 ^ min x6_1.toNat 64) = ji6 := hji6
     have hji6z : x6_1 ≤ 64 → (a0 / 2 ^ x6_1.toNat) = ji6 := iV hji6
     by_cases c7 : (Go.bits .and .u64 (ji6) 1) = 1
     · rw [if_pos c7] at H
       have c7b0 : ((Go.bits .and .u64 (ji6) 1) == 1) = true := beq_iff_eq.mpr c7
       have c7b1 : ((Go.bits .and .u64 (ji6) 1) != 1) = false := bne_eq_false_iff_eq.mpr c7
       clear c7
       by_cases c8 : x3_1.length < 17592186044416
       case neg => rw [if_neg c8] at H; simp at H
       rw [if_pos c8] at H
       have LMc8 := Aside0.mk c8
       clear c8
       obtain ⟨y272, hy272⟩ : ∃ y_ : List Int, y_ = (x3_1 ++ [x6_1]) := ⟨_, rfl⟩
       replace H : (cC k1 a0 y272 (wrap64 (x6_1 + 1))) = some r := by first | (rw [hy272]; with_reducible exact H) | (have H2_ := (Option.bind_some _ _).symm.trans H; rw [hy272]; with_reducible exact H2_) | (have H2_ := (Option.bind_some _ _).symm.trans H; with_reducible exact H2_) | with_reducible exact H | (rw [hy272]; exact H) | exact H
       have Ny272 := Aside0.mk hy272
       clear hy272
       have H' := Aside0.mk H
       clear H
       go_wp2_with (first | ((with_reducible refine bv (b := .append) (xs := #[.tmp 14, .tmp 16]) rfl ?_); at_builtin; refine Kd.R_append (Kd.int .i64) (w0 := w) w.heap.size rfl (.tmp 14) (.tmp 16) 25 3 (.int .i64 0) 8 rfl Tryz.underlying25 bu rfl (by decide) (by omega) u3 x3_1 x6_1 [.int .i64 x6_1] (fun _ => True) (fun _ => False) rfl rfl ?aP (fun _ hk => hk.elim) ?aF ?aO ?aB ?aS ?aL ?_; (case aP => exact rfl); (case aB => exact zB); (case aF => exact (fun _ _ => trivial)); (case aO => exact (zR HO_3.out)); (case aS => exact (ai zB)); (case aL => have := LMc8.out; omega); intro v273 w9 ho hb hg hat; rw [← Ny272.out] at ho; replace HB := zM (hb); have HO274 := zM (ho); clear HO_3; clear ho hb hg hat))
       go_roundg k1
       case measure => have := HK1.out; omega
       case rel => exact ⟨(y272), (wrap64 (x6_1 + 1)), (by first | rfl | (simp; done) | (simp [*]; done)), H', ⟨by have := HK1.out; omega⟩, ⟨zR HO274.out⟩, ⟨zB⟩⟩
     · rw [if_neg c7] at H
       have c7b0 : ((Go.bits .and .u64 (ji6) 1) == 1) = false := beq_eq_false_iff_ne.mpr c7
       have c7b1 : ((Go.bits .and .u64 (ji6) 1) != 1) = true := bne_iff_ne.mpr c7
       have H' := Aside0.mk H
       clear H
       go_wp2
       go_roundg k1
       case measure => have := HK1.out; omega
       case rel => exact ⟨(x3_1), (wrap64 (x6_1 + 1)), (by first | rfl | (simp; done) | (simp [*]; done)), H', ⟨by have := HK1.out; omega⟩, ⟨zR HO_3.out⟩, ⟨zB⟩⟩
   · rw [if_neg c4] at H
     have c4b0 : decide (x6_1 < 8) = false := ar c4
     clear c4
     obtain rfl := ao H
     go_wp2
     go_ret
     exact ⟨_, by first | rfl | (simp [al, ak] <;> rfl) | (simp [*, al, ak] <;> rfl), by (with_reducible repeat (first | apply Kd.R_alloc | apply Kd.R_drewN | apply Kd.R_drew)); exact HO_3.out, zB⟩
attribute [local go_sem] aZ aV aW aQ aX aT aY aU
set_option linter.unusedVariables false
set_option linter.unusedSimpArgs false
theorem l7 {d : Nat} {e c : Nat} {xs ys : Array Value} {i : Nat} {is : List Nat} {a b : Value} {r s : Bool} {w : World} (ha : (part e xs (i * c)).run Tryz.prog w = .ok a w) (hb : (part e ys (i * c)).run Tryz.prog w = .ok b w) (he : (Op.equalIn d e a b).run Tryz.prog w = .ok r w) (hr : (Op.eqItems d e c xs ys is).run Tryz.prog w = .ok s w) : (Op.eqItems d e c xs ys (i :: is)).run Tryz.prog w = .ok (r && s) w := by
 rw [Op.eqItems]
 simp only [Sem.run_bind, ha, hb, he, Result.andThen_ok]
 cases r
 · simp
 · simpa using hr
theorem rN {d : Nat} {e c : Nat} {xs ys : Array Value} {i : Nat} {a b : Value} {r : Bool} {w : World} (ha : (part e xs (i * c)).run Tryz.prog w = .ok a w) (hb : (part e ys (i * c)).run Tryz.prog w = .ok b w) (he : (Op.equalIn d e a b).run Tryz.prog w = .ok r w) : (Op.eqItems d e c xs ys [i]).run Tryz.prog w = .ok r w := by
 have h := l7 (is := []) (s := true) ha hb he (by simp [Op.eqItems])
 rwa [Bool.and_true] at h
theorem rU (d : Nat) (w : World) (x0 x1 y0 y1 : Int) :
 (Op.equalIn (d + 2) 69 (.agg #[.int .i64 x0, .int .i64 x1]) (.agg #[.int .i64 y0, .int .i64 y1])).run Tryz.prog w = .ok (x0 == y0 && (x1 == y1)) w := by
 obtain ⟨i_, hi_⟩ := Option.isSome_iff_exists.1 (by kernel_rfl : (Tryz.prog.info? 3).isSome = true)
 rw [show d + 2 = (d + 1) + 1 from rfl, run_equalIn_array w (d + 1) _ _ Tryz.underlying69 hi_, show Tryz.prog.cellsOf 3 = 1 from by kernel_rfl, show List.range 2 = [0, 1] from rfl]
 refine l7 (by go_simp; rfl) (by go_simp; rfl) (by go_simp) ?_
 exact rN (by go_simp; rfl) (by go_simp; rfl) (by go_simp)
attribute [local go_sem] aZ aV aW aQ aX aT aY aU
set_option linter.unusedVariables false
set_option linter.unusedSimpArgs false
attribute [local go_sem high] rU
def gB (k : Nat) (l0 : List Int) (l1 : List Int) : Option (Int × Int) := (fF k l0).bind fun t278 => ((fF k l1).bind fun t279 => (some (Go.bits .andNot .u64 t278 t279, Go.bits .andNot .u64 t279 t278)))
theorem qi (k : Nat) (A0 : Option Addr) (c0 : Nat) (l0 : List Int) (A1 : Option Addr) (c1 : Nat) (l1 : List Int) (r1 : Int) (r2 : Int) (w : World) (hr0 : Kd.C (Kd.int .i64) w A0 l0.length l0) (hc0 : l0.length ≤ c0) (hr1 : Kd.C (Kd.int .i64) w A1 l1.length l1) (hc1 : l1.length ≤ c1) (h : gB k l0 l1 = some (r1, r2)) :
 Calls Tryz.prog 88 #[.slice A0 l0.length c0, .slice A1 l1.length c1] w fun e w' => e = .returned (.tuple #[.int .u64 r1, .int .u64 r2]) ∧ Drawn0 w w' := by
 have HR0 := Aside0.mk hr0
 have HC0 := Aside0.mk hc0
 clear hr0 hc0
 have HR1 := Aside0.mk hr1
 have HC1 := Aside0.mk hc1
 clear hr1 hc1
 have H := h
 unfold gB at H
 clear h
 replace H := ax H
 obtain ⟨t278, A30, H⟩ := H
 try dsimp only at H
 have A3 := Aside0.mk A30
 clear A30
 replace H := ax H
 obtain ⟨t279, A40, H⟩ := H
 try dsimp only at H
 have A4 := Aside0.mk A40
 clear A40
 simp only [Option.some.injEq, Prod.mk.injEq] at H
 obtain ⟨rfl, rfl⟩ := H
 go_enter Tryz.func88, Tryz.ntmps88
 go_wp2_with (first | ((with_reducible refine ay (f := 74) rfl ?_); refine zc 9 Tryz.func74 #[.slice A0 l0.length c0] ?_; (with_reducible refine (jv k _ _ l0 t278 _ ?side1 ?side2 A3.out).mono ?_); (case side1 => exact zC HR0.out); (case side2 => exact HC0.out); rintro e w' ⟨rfl, ⟨nd, rfl⟩⟩; refine ⟨_, rfl, ?_⟩) | ((with_reducible refine ay (f := 74) rfl ?_); refine zc 11 Tryz.func74 #[.slice A1 l1.length c1] ?_; (with_reducible refine (jv k _ _ l1 t279 _ ?side1 ?side2 A4.out).mono ?_); (case side1 => exact zC HR1.out); (case side2 => exact HC1.out); rintro e w' ⟨rfl, ⟨nd, rfl⟩⟩; refine ⟨_, rfl, ?_⟩))
 go_ret2
 exact ⟨by first | rfl | (simp; done) | (simp [*]; done), by repeat (first | exact Drawn0.refl _ | apply Drawn0.step)⟩
def ee (k : Nat) (l0 : List Int) (l1 : List Int) : Option (Bool) := (gB k l0 l1).bind fun bt284 => ((eQ bt284.1).bind fun t286 => ((eQ bt284.2).bind fun t287 => (some ((wrap64 (t286 + t287)) == 1))))
theorem ql (k : Nat) (A0 : Option Addr) (c0 : Nat) (l0 : List Int) (A1 : Option Addr) (c1 : Nat) (l1 : List Int) (r : Bool) (w : World) (hr0 : Kd.C (Kd.int .i64) w A0 l0.length l0) (hc0 : l0.length ≤ c0) (hr1 : Kd.C (Kd.int .i64) w A1 l1.length l1) (hc1 : l1.length ≤ c1) (h : ee k l0 l1 = some r) :
 Calls Tryz.prog 79 #[.slice A0 l0.length c0, .slice A1 l1.length c1] w fun e w' => e = .returned (.bool r) ∧ Below w.heap.size w w' := by
 have HR0 := Aside0.mk hr0
 have HC0 := Aside0.mk hc0
 clear hr0 hc0
 have HR1 := Aside0.mk hr1
 have HC1 := Aside0.mk hc1
 clear hr1 hc1
 have HB := zM (Below.refl w.heap.size w)
 have H := h
 unfold ee at H
 clear h
 replace H := ax H
 obtain ⟨⟨t284, t285⟩, A30, H⟩ := H
 try dsimp only at H
 have A3 := Aside0.mk A30
 clear A30
 replace H := ax H
 obtain ⟨t286, A40, H⟩ := H
 have A4 := Aside0.mk A40
 clear A40
 replace H := ax H
 obtain ⟨t287, A50, H⟩ := H
 have A5 := Aside0.mk A50
 clear A50
 obtain rfl := ao H
 go_enter Tryz.func79, Tryz.ntmps79
 go_wp2_with (first | ((with_reducible refine ay (f := 88) rfl ?_); refine zc 10 Tryz.func88 #[.slice A0 l0.length c0, .slice A1 l1.length c1] ?_; (with_reducible refine (qi k _ _ l0 _ _ l1 t284 t285 _ ?side1 ?side2 ?side3 ?side4 A3.out).mono ?_); (case side1 => exact zC HR0.out); (case side2 => exact HC0.out); (case side3 => exact zC HR1.out); (case side4 => exact HC1.out); rintro e w' ⟨rfl, ⟨nd, rfl⟩⟩; refine ⟨_, rfl, ?_⟩) | ((with_reducible refine ay (f := 89) rfl ?_); refine zc 14 Tryz.func89 #[.int .u64 t284] ?_; (with_reducible refine (ju t284 t286 _ A4.out).mono ?_); rintro e w6 ⟨rfl, hb⟩; refine ⟨_, rfl, ?_⟩; replace HB := zM (ah zB hb); (try clear hb); (try clear hi)) | ((with_reducible refine ay (f := 89) rfl ?_); refine zc 16 Tryz.func89 #[.int .u64 t285] ?_; (with_reducible refine (ju t285 t287 _ A5.out).mono ?_); rintro e w7 ⟨rfl, hb⟩; refine ⟨_, rfl, ?_⟩; replace HB := zM (ah zB hb); (try clear hb); (try clear hi)))
 go_ret
 exact ⟨by first | rfl | (simp [al, ak] <;> rfl) | (simp [*, al, ak] <;> rfl), zB⟩
theorem lw (l : List S69) : ∀ (k : Int), 0 ≤ k → k + 2 * (l.length : Int) ≤ 4611686018427387904 → (cp l k).1 = k + 2 * (l.length : Int) := by
 induction l with
 | nil => intro k h1 h2; simp [cp]
 | cons e t ih =>
  intro k h1 h2
  simp only [List.length_cons] at h2 ⊢
  simp only [cp]
  have e1 : wrap64 (k + 1) = k + 1 := b5 (by omega) (by omega)
  have e2 : wrap64 (k + 1 + 1) = k + 1 + 1 := b5 (by omega) (by omega)
  rw [e1, e2, ih (k + 1 + 1) (by omega) (by omega)]
  omega
theorem pp (a : Int) (l : List S69) (k : Int) : gq a l k = some ((cp l k).1, (cp l k).2) := rfl
theorem pq (l : List S69) (hl : l.length ≤ 1048576) : ¬ (cp l 1).1 < 0 := by rw [lw l 1 (by omega) (by omega)]; omega
theorem gE (n : Int) (l : List S69) : ∀ p, bL n p l = true → ∀ e ∈ l, 0 ≤ e.f0 ∧ e.f0 < e.f1 ∧ e.f1 < n := by
 induction l with
 | nil => intro p h e he; simp at he
 | cons x t ih =>
  intro p h e he
  simp only [bL, Bool.and_eq_true, decide_eq_true_eq] at h
  obtain ⟨⟨⟨h1, h2⟩, h3⟩, h4, h5⟩ := h
  rcases List.mem_cons.1 he with rfl | he
  · exact ⟨h1, h2, h3⟩
  · exact ih _ h5 e he
theorem eM {a : Int} {l : List S69} (h : bW a l = true) : 0 ≤ a ∧ a ≤ 8 ∧ ∀ e ∈ l, 0 ≤ e.f0 ∧ e.f0 < e.f1 ∧ e.f1 < a := by
 simp only [bW, Bool.and_eq_true, decide_eq_true_eq] at h
 exact ⟨h.1.1, h.1.2, gE a l none h.2⟩
def cE (l : List S69) (x y : Int) : Bool := l.any fun e => (decide (e.f0 = x) && decide (e.f1 = y)) || (decide (e.f0 = y) && decide (e.f1 = x))
theorem o9 (a : Int) (l : List S69) (x y : Int) (hl : l.length ≤ 1048576) (d : Nat) : ∀ (m : Nat), l.length - m = d → m ≤ l.length →
  Ev (fun k => cY k x y (m : Int) a l) (cE (l.drop m) x y) := by
 induction d with
 | zero =>
  intro m h0 h1
  refine Ev.step (fun k => by rw [cY]) ?_
  rw [List.drop_eq_nil_of_le (by omega)]
  exact Ev.neg (by omega) (Ev.now _)
 | succ d ih =>
  intro m h0 h1
  have hm : m < l.length := by omega
  refine Ev.step (fun k => by rw [cY]) ?_
  refine Ev.pos (by omega) (Ev.pos (by omega) ?_)
  have ihm := ih (m + 1) (by omega) (by omega)
  rw [← aN hm (by omega)] at ihm
  rw [dK l m hm, List.drop_eq_getElem_cons hm]
  simp only [cE, List.any_cons] at ihm ⊢
  generalize (l.drop (m + 1)).any _ = R at ihm ⊢
  by_cases c1 : l[m].f0 = x
  · refine Ev.pos c1 ?_
    by_cases c2 : l[m].f1 = y
    · refine Ev.pos c2 ?_
      rw [ag c1, ag c2]
      exact Ev.now _
    · refine Ev.neg c2 ?_
      rw [ar c2, Bool.and_false, Bool.false_or]
      by_cases c3 : l[m].f0 = y
      · refine Ev.pos c3 ?_
        by_cases c4 : l[m].f1 = x
        · refine Ev.pos c4 ?_
          rw [ag c3, ag c4]
          exact Ev.now _
        · refine Ev.neg c4 ?_
          rw [ar c4, Bool.and_false, Bool.false_or]
          exact ihm
      · refine Ev.neg c3 ?_
        rw [ar c3, Bool.false_and, Bool.false_or]
        exact ihm
  · refine Ev.neg c1 ?_
    rw [ar c1, Bool.false_and, Bool.false_or]
    by_cases c3 : l[m].f0 = y
    · refine Ev.pos c3 ?_
      by_cases c4 : l[m].f1 = x
      · refine Ev.pos c4 ?_
        rw [ag c3, ag c4]
        exact Ev.now _
      · refine Ev.neg c4 ?_
        rw [ar c4, Bool.and_false, Bool.false_or]
        exact ihm
    · refine Ev.neg c3 ?_
      rw [ar c3, Bool.false_and, Bool.false_or]
      exact ihm
theorem lr (a : Int) (l : List S69) (x y : Int) (hl : l.length ≤ 1048576) : Ev (fun k => f4 k a l x y) (cE l x y) :=
 o9 a l x y hl l.length 0 (by omega) (Nat.zero_le _)
theorem mt {α : Type} (l : List α) (f g : α → Bool) (h : ∀ e ∈ l, f e = g e) : l.any f = l.any g := by
 induction l with
 | nil => rfl
 | cons x t ih => rw [List.any_cons, List.any_cons, h x (List.mem_cons_self ..), ih fun e he => h e (List.mem_cons_of_mem _ he)]
def bB (lo hi : Int) : Option Int → List Int → Bool
 | _, [] => true
 | p, x :: t => (decide (lo ≤ x) && decide (x ≤ hi)) && ((match p with | none => true | some q => decide (q < x)) && bB lo hi (some x) t)
def b9 (l : List Int) : Nat → Option Int
 | 0 => none
 | m + 1 => l[m]?
theorem kQ (l : List Int) (lo hi : Int) (m : Nat) (hm : m < l.length) : bB lo hi (b9 l m) (l.drop m) = ((decide (lo ≤ l[m]) && decide (l[m] ≤ hi)) && ((match b9 l m with | none => true | some q => decide (q < l[m])) && bB lo hi (b9 l (m + 1)) (l.drop (m + 1)))) := by
 rw [List.drop_eq_getElem_cons hm, show b9 l (m + 1) = some l[m] from List.getElem?_eq_getElem hm]
 cases b9 l m <;> rfl
theorem pW (l : List Int) (lo hi : Int) (hl : l.length ≤ 1048576) (d : Nat) : ∀ (m : Nat), l.length - m = d → m ≤ l.length →
  Ev (fun k => dn k l lo hi (m : Int)) (bB lo hi (b9 l m) (l.drop m)) := by
 induction d with
 | zero =>
  intro m h0 h1
  refine Ev.step (fun k => by rw [dn]) ?_
  rw [List.drop_eq_nil_of_le (by omega)]
  refine Ev.neg (by omega) ?_
  cases b9 l m <;> exact Ev.now _
 | succ d ih =>
  intro m h0 h1
  have hm : m < l.length := by omega
  refine Ev.step (fun k => by rw [dn]) ?_
  rw [kQ l lo hi m hm]
  refine Ev.pos (by omega) (Ev.pos (by omega) ?_)
  rw [bn l m hm]
  have ihm := ih (m + 1) (by omega) (by omega)
  rw [← aN hm (by omega)] at ihm
  generalize bB lo hi (b9 l (m + 1)) (l.drop (m + 1)) = R at ihm ⊢
  refine Ev.bindo (fA _ _ _) ?_
  cases hc : (decide (lo ≤ l[m]) && decide (l[m] ≤ hi)) with
  | false => rw [Bool.false_and]; exact Ev.neg (by decide) (Ev.now _)
  | true =>
   rw [Bool.true_and]
   refine Ev.pos rfl ?_
   cases m with
   | zero =>
    refine Ev.neg (by omega) ?_
    simp only [b9, Bool.true_and]
    exact ihm
   | succ q =>
    have hq : q < l.length := by omega
    have hw : wrap64 (((q + 1 : Nat) : Int) - 1) = (q : Int) := by unfold wrap64; omega
    refine Ev.pos (by omega) ?_
    rw [hw]
    refine Ev.pos (by omega) (Ev.pos (by omega) ?_)
    rw [bn l q hq]
    simp only [b9, List.getElem?_eq_getElem hq]
    by_cases c : l[q] ≥ l[q + 1]
    · rw [ar (by omega : ¬ l[q] < l[q + 1]), Bool.false_and]
      exact Ev.pos c (Ev.now _)
    · rw [ag (by omega : l[q] < l[q + 1]), Bool.true_and]
      exact Ev.neg c ihm
theorem qa (l : List Int) (n : Int) (hl : l.length ≤ 1048576) (d : Nat) : ∀ (m : Nat), l.length - m = d → m ≤ l.length →
  Ev (fun k => dv k l n l (l.length : Int) (m : Int)) (bB 0 (wrap64 (n - 1)) (b9 l m) (l.drop m)) := by
 induction d with
 | zero =>
  intro m h0 h1
  refine Ev.step (fun k => by rw [dv]) ?_
  rw [List.drop_eq_nil_of_le (by omega)]
  refine Ev.neg (by omega) ?_
  cases b9 l m <;> exact Ev.now _
 | succ d ih =>
  intro m h0 h1
  have hm : m < l.length := by omega
  refine Ev.step (fun k => by rw [dv]) ?_
  rw [kQ l 0 (wrap64 (n - 1)) m hm]
  refine Ev.pos (by omega) (Ev.pos (by omega) (Ev.pos (by omega) ?_))
  rw [bn l m hm]
  have ihm := ih (m + 1) (by omega) (by omega)
  rw [← aN hm (by omega)] at ihm
  generalize bB 0 (wrap64 (n - 1)) (b9 l (m + 1)) (l.drop (m + 1)) = R at ihm ⊢
  refine Ev.bindo (jN _ _ _) ?_
  cases hc : (decide (0 ≤ l[m]) && decide (l[m] ≤ wrap64 (n - 1))) with
  | false => rw [Bool.false_and]; exact Ev.neg (by decide) (Ev.now _)
  | true =>
   rw [Bool.true_and]
   refine Ev.pos rfl ?_
   cases m with
   | zero =>
    refine Ev.neg (by omega) ?_
    simp only [b9, Bool.true_and]
    exact ihm
   | succ q =>
    have hq : q < l.length := by omega
    have hw : wrap64 (((q + 1 : Nat) : Int) - 1) = (q : Int) := by unfold wrap64; omega
    refine Ev.pos (by omega) ?_
    rw [hw]
    refine Ev.pos (by omega) (Ev.pos (by omega) ?_)
    rw [bn l q hq]
    simp only [b9, List.getElem?_eq_getElem hq]
    by_cases c : l[q + 1] ≤ l[q]
    · rw [ar (by omega : ¬ l[q] < l[q + 1]), Bool.false_and]
      exact Ev.pos c (Ev.now _)
    · rw [ag (by omega : l[q] < l[q + 1]), Bool.true_and]
      exact Ev.neg c ihm
theorem oD (l : List Int) (n : Int) (hl : l.length ≤ 1048576) : Ev (fun k => il k l n) (bB 0 (wrap64 (n - 1)) none l) :=
 qa l n hl l.length 0 (by omega) (Nat.zero_le _)
theorem pX (l : List Int) (lo hi : Int) (hl : l.length ≤ 1048576) : Ev (fun k => g9 k l lo hi) (bB lo hi none l) :=
 pW l lo hi hl l.length 0 (by omega) (Nat.zero_le _)
theorem pS (a : Int) (e : List S69) (l : List Int) (hl : l.length ≤ 1048576) : Ev (fun k => f3 k a e l) (bB 0 (wrap64 (a - 1)) none l) := by
 unfold f3
 exact Ev.bind (pX l _ _ hl) (Ev.now _)
theorem kR (lo hi : Int) (l : List Int) : ∀ p, bB lo hi p l = true → ∀ x ∈ l, lo ≤ x ∧ x ≤ hi := by
 induction l with
 | nil => intro p h x hx; simp at hx
 | cons y t ih =>
  intro p h x hx
  simp only [bB, Bool.and_eq_true, decide_eq_true_eq] at h
  rcases List.mem_cons.1 hx with rfl | hx
  · exact h.1
  · exact ih _ h.2.2 x hx
theorem oE (lo hi : Int) (l : List Int) : ∀ p, bB lo hi p l = true → l.Pairwise (· < ·) ∧ ∀ q, p = some q → ∀ x ∈ l, q < x := by
 induction l with
 | nil => intro p _; exact ⟨.nil, fun _ _ x hx => by cases hx⟩
 | cons y t ih =>
  intro p h
  simp only [bB, Bool.and_eq_true, decide_eq_true_eq] at h
  obtain ⟨_, h2, h3⟩ := h
  obtain ⟨i1, i2⟩ := ih _ h3
  refine ⟨List.pairwise_cons.2 ⟨fun x hx => i2 y rfl x hx, i1⟩, fun q hq x hx => ?_⟩
  subst hq
  have h4 : q < y := by simpa using h2
  rcases List.mem_cons.1 hx with rfl | hx
  · exact h4
  · have := i2 y rfl x hx; omega
theorem oF (lo hi : Int) (l : List Int) : ∀ p, l.Pairwise (· < ·) → (∀ x ∈ l, lo ≤ x ∧ x ≤ hi) → (∀ q, p = some q → ∀ x ∈ l, q < x) → bB lo hi p l = true := by
 induction l with
 | nil => intro p _ _ _; cases p <;> rfl
 | cons y t ih =>
  intro p hp hb hq
  obtain ⟨h1, h2⟩ := List.pairwise_cons.1 hp
  have hy := hb y (.head _)
  have ih' := ih (some y) h2 (fun x hx => hb x (.tail _ hx)) (fun q e x hx => by injection e with e; subst e; exact h1 x hx)
  cases p with
  | none => simp only [bB, Bool.and_eq_true, decide_eq_true_eq, true_and]; exact ⟨hy, ih'⟩
  | some q => simp only [bB, Bool.and_eq_true, decide_eq_true_eq]; exact ⟨hy, hq q rfl y (.head _), ih'⟩
def aI (b y : Int) : Bool := Go.bits .and .u64 (cM .u64 b y) 1 == 1
def dQ (b x : Int) : Int := Go.bits .or .u64 b (cN .u64 1 x)
theorem sU : ∀ b : Fin 256, ∀ x : Fin 8, (0 ≤ dQ b x ∧ dQ b x < 256) ∧ ∀ y : Fin 8, aI (dQ b x) y = (aI b y || decide (y = x)) := by decide +kernel
theorem qM : ∀ y : Fin 8, aI 0 y = false := by decide +kernel
theorem dB {n : Nat} {b : Int} (h : 0 ≤ b) (h2 : b < (n : Int)) : ∃ i : Fin n, b = ((i.val : Nat) : Int) := ⟨⟨b.toNat, by omega⟩, by show b = ((b.toNat : Nat) : Int); omega⟩
theorem sV {b x : Int} (hb : 0 ≤ b ∧ b < 256) (hx : 0 ≤ x ∧ x < 8) : (0 ≤ dQ b x ∧ dQ b x < 256) ∧ ∀ y, 0 ≤ y → y < 8 → aI (dQ b x) y = (aI b y || decide (y = x)) := by
 obtain ⟨i, rfl⟩ := dB (n := 256) hb.1 hb.2
 obtain ⟨j, rfl⟩ := dB (n := 8) hx.1 hx.2
 have h := sU i j
 refine ⟨h.1, fun y h0 h8 => ?_⟩
 obtain ⟨q, rfl⟩ := dB (n := 8) h0 h8
 rw [h.2 q]
 congr 1
 rw [decide_eq_decide]
 omega
theorem iu {y : Int} (h0 : 0 ≤ y) (h8 : y < 8) : aI 0 y = false := by
 obtain ⟨q, rfl⟩ := dB (n := 8) h0 h8
 exact qM q
theorem ep {b y : Int} (h0 : 0 ≤ y) : cq b y = some (aI b y) := by
 unfold cq
 rw [if_pos h0]
 rfl
def bg (b : Int) (l : List Int) : Int := l.foldl dQ b
theorem jS (l : List Int) : ∀ (b : Int), 0 ≤ b ∧ b < 256 → (∀ x ∈ l, 0 ≤ x ∧ x < 8) → (0 ≤ bg b l ∧ bg b l < 256) ∧ ∀ y, 0 ≤ y → y < 8 → aI (bg b l) y = (aI b y || decide (y ∈ l)) := by
 induction l with
 | nil => intro b hb _; exact ⟨hb, fun y _ _ => by simp [bg]⟩
 | cons x t ih =>
  intro b hb hx
  have h1 := sV hb (hx x (List.mem_cons_self ..))
  have h2 := ih (dQ b x) h1.1 (fun z hz => hx z (List.mem_cons_of_mem _ hz))
  refine ⟨h2.1, fun y h0 h8 => ?_⟩
  have := h2.2 y h0 h8
  rw [show bg b (x :: t) = bg (dQ b x) t from rfl, this, h1.2 y h0 h8, Bool.or_assoc]
  congr 1
  rw [Bool.eq_iff_iff]
  simp only [Bool.or_eq_true, decide_eq_true_eq, List.mem_cons]
theorem sJ (l : List Int) (hl : l.length ≤ 1048576) (hx : ∀ x ∈ l, 0 ≤ x ∧ x < 8) (d : Nat) : ∀ (b : Int) (m : Nat), l.length - m = d → m ≤ l.length →
  Ev (fun k => dN k b l (l.length : Int) (m : Int)) (bg b (l.drop m)) := by
 induction d with
 | zero =>
  intro b m h0 h1
  refine Ev.step (fun k => by rw [dN]) (Ev.neg (by omega) ?_)
  rw [List.drop_eq_nil_of_le (by omega)]
  exact Ev.now _
 | succ d ih =>
  intro b m h0 h1
  have hm : m < l.length := by omega
  have := hx l[m] (List.getElem_mem hm)
  refine Ev.step (fun k => by rw [dN]) (Ev.pos (by omega) (Ev.pos (by omega) (Ev.pos (by omega) ?_)))
  rw [bn l m hm, List.drop_eq_getElem_cons hm, aN hm (by omega)]
  exact Ev.pos this.1 (ih _ (m + 1) (by omega) (by omega))
theorem jR (l : List Int) (hl : l.length ≤ 1048576) (hx : ∀ x ∈ l, 0 ≤ x ∧ x < 8) : Ev (fun k => fF k l) (bg 0 l) :=
 sJ l hl hx l.length 0 0 (by omega) (Nat.zero_le _)
theorem pY (l : List Int) (x : Int) (hl : l.length ≤ 1048576) (d : Nat) : ∀ (m : Nat), l.length - m = d → m ≤ l.length → Ev (fun k => dX k l x (m : Int)) (decide (x ∈ l.drop m)) := by
 induction d with
 | zero =>
  intro m h0 h1
  refine Ev.step (fun k => by rw [dX]) (Ev.neg (by omega) ?_)
  rw [List.drop_eq_nil_of_le (by omega), ar (by simp)]
  exact Ev.now _
 | succ d ih =>
  intro m h0 h1
  have hm : m < l.length := by omega
  refine Ev.step (fun k => by rw [dX]) (Ev.pos (by omega) (Ev.pos (by omega) ?_))
  rw [bn l m hm, List.drop_eq_getElem_cons hm, aN hm (by omega)]
  by_cases c : l[m] = x
  · rw [ag (by rw [c]; exact List.mem_cons_self ..)]
    exact Ev.pos c (Ev.now _)
  · have h := ih (m + 1) (by omega) (by omega)
    rw [show decide (x ∈ l[m] :: l.drop (m + 1)) = decide (x ∈ l.drop (m + 1)) from by
     rw [decide_eq_decide, List.mem_cons]
     exact ⟨fun h => h.resolve_left (fun h => c h.symm), .inr⟩]
    exact Ev.neg c h
theorem pZ (l : List Int) (x : Int) (hl : l.length ≤ 1048576) : Ev (fun k => f9 k l x) (decide (x ∈ l)) := by
 have := pY l x hl l.length 0 (by omega) (Nat.zero_le _)
 unfold f9
 simpa only [List.drop_zero, Int.natCast_zero] using this
def aH (f : Int → Bool) : Nat → Int → List Int
 | 0, _ => []
 | d + 1, y => (if f y = true then [y] else []) ++ aH f d (y + 1)
theorem ol (f : Int → Bool) (d : Nat) : ∀ y, (aH f d y).length ≤ d := by
 induction d with
 | zero => intro y; simp [aH]
 | succ d ih =>
  intro y
  have := ih (y + 1)
  simp only [aH, List.length_append]
  split <;> simp only [List.length_nil, List.length_cons] <;> omega
theorem om (f g : Int → Bool) (d : Nat) : ∀ y, (∀ z, y ≤ z → z < y + (d : Int) → f z = g z) → aH f d y = aH g d y := by
 induction d with
 | zero => intro y _; rfl
 | succ d ih =>
  intro y h
  simp only [aH]
  rw [h y (by omega) (by omega), ih (y + 1) (fun z h1 h2 => h z (by omega) (by omega))]
theorem oh (f : Int → Bool) (d : Nat) : ∀ y, (∀ z, y ≤ z → z < y + (d : Int) → f z = false) → aH f d y = [] := by
 induction d with
 | zero => intro y _; rfl
 | succ d ih =>
  intro y h
  simp only [aH]
  rw [h y (by omega) (by omega), ih (y + 1) (fun z h1 h2 => h z (by omega) (by omega))]
  rfl
theorem kL (f : Int → Bool) (d e : Nat) : ∀ y, aH f (d + e) y = aH f d y ++ aH f e (y + (d : Int)) := by
 induction d with
 | zero => intro y; simp [aH]
 | succ d ih =>
  intro y
  rw [show d + 1 + e = (d + e) + 1 by omega]
  simp only [aH]
  rw [ih (y + 1), List.append_assoc, show y + 1 + (d : Int) = y + ((d + 1 : Nat) : Int) by omega]
theorem dc (f : Int → Bool) (d : Nat) : ∀ y z, z ∈ aH f d y ↔ (y ≤ z ∧ z < y + (d : Int)) ∧ f z = true := by
 induction d with
 | zero => intro y z; simp only [aH, List.not_mem_nil, false_iff]; omega
 | succ d ih =>
  intro y z
  simp only [aH, List.mem_append, ih]
  by_cases c : f y = true
  · rw [if_pos c, List.mem_singleton]
    constructor
    · rintro (rfl | h)
      · exact ⟨by omega, c⟩
      · exact ⟨by omega, h.2⟩
    · rintro ⟨h, hf⟩
      by_cases hz : z = y
      · exact .inl hz
      · exact .inr ⟨by omega, hf⟩
  · rw [if_neg c]
    constructor
    · rintro (h | h)
      · simp at h
      · exact ⟨by omega, h.2⟩
    · rintro ⟨h, hf⟩
      by_cases hz : z = y
      · subst hz; exact absurd hf c
      · exact .inr ⟨by omega, hf⟩
def sQ (n : Int) : Int := IntKind.u64.wrap ((cN .u64 1 n) - 1)
def dd (b c : Int) : Int := Go.bits .andNot .u64 b c
theorem sG (b : Int) (d : Nat) : ∀ (y : Int) (acc : List Int), (8 - y).toNat = d → 0 ≤ y → acc.length + d ≤ 1000 → Ev (fun k => cC k b acc y) (acc ++ aH (aI b) d y) := by
 induction d with
 | zero =>
  intro y acc h0 h1 h2
  refine Ev.step (fun k => by rw [cC]) (Ev.neg (by omega) ?_)
  simp only [aH, List.append_nil]
  exact Ev.now _
 | succ d ih =>
  intro y acc h0 h1 h2
  refine Ev.step (fun k => by rw [cC]) (Ev.pos (by omega) (Ev.pos (by omega) ?_))
  have hw : wrap64 (y + 1) = y + 1 := b5 (by omega) (by omega)
  rw [hw, aH]
  by_cases c : aI b y = true
  · rw [if_pos c, ← List.append_assoc]
    refine Ev.pos (by simpa only [aI, beq_iff_eq] using c) (Ev.pos (by omega) ?_)
    exact ih (y + 1) _ (by omega) (by omega) (by rw [List.length_append, List.length_singleton]; omega)
  · rw [if_neg c, List.nil_append]
    exact Ev.neg (by simpa only [aI, beq_iff_eq] using c) (ih (y + 1) acc (by omega) (by omega) (by omega))
theorem sH (b : Int) : Ev (fun k => ip k b) (aH (aI b) 8 0) := by
 unfold ip
 have := sG b 8 0 [] (by omega) (by omega) (by simp)
 simpa only [List.nil_append] using this
theorem sb : mM 87 bH := by
 intro W x y A B c c' hx hc hy hc'
 refine (kH (x.length + 1) A c x B c' y (bH x y) W hx hc hy hc' (kI x y hx.2.1 _ (Nat.lt_succ_self _))).mono ?_
 rintro e w' ⟨rfl, ⟨n, rfl⟩⟩
 exact ⟨rfl, n, #[], (Sort.grow_empty _).symm⟩
theorem ji : ltOf bH = aE := by
 funext x y
 unfold ltOf
 rw [Bool.eq_iff_iff, decide_eq_true_eq]
 exact jJ x y
theorem nc : Sort.SWO aE := ⟨gR, fun x y z => gQ x y z, fun x y z => mo⟩
theorem sortLists.calls (P0_ : Nat → Prop) (u9000_ : Value) (l0 : List (List Int)) (w0 w : World) (hB : Below w0.heap.size w0 w) (ho0 : Kd.S (Kd.slice 3 (Kd.int .i64)) 25 w w0.heap.size P0_ u9000_ l0) (hlen : l0.length < 4611686018427387904) :
  Calls Tryz.prog 86 #[u9000_, .func (.func 87) #[] #[]] w fun e w' => e = .returned (.tuple #[]) ∧ Kd.S (Kd.slice 3 (Kd.int .i64)) 25 w' w0.heap.size (fun k_ => (P0_ k_ ∨ w.heap.size ≤ k_)) u9000_ (bJ l0) ∧ Below w0.heap.size w0 w' ∧ Kept w w' (fun k_ => P0_ k_) := by
 have h := n3 Tryz.laysSlF6_f86 Tryz.laysSlF06_f86 86 rfl rfl bH (by rw [ji]; exact nc) (by rw [ji]; exact iy) 87 (enters_of Tryz.func87 (by kernel_rfl) rfl) sb P0_ u9000_ l0 w0 w hB ho0 hlen
 rw [ji] at h
 exact h
def bQ (p : Int → Bool) (n : Nat) : List (List Int) := (aH p n 0).map fun b => aH (aI b) 8 0
theorem mg (p : Int → Bool) (n : Nat) : bQ p (n + 1) = bQ p n ++ (if p (n : Int) = true then [aH (aI (n : Int)) 8 0] else []) := by
 unfold bQ
 rw [kL, List.map_append]
 congr 1
 simp only [aH, List.append_nil, Int.zero_add]
 split <;> rfl
theorem gL (p : Int → Bool) (n : Nat) : (bQ p n).length ≤ n := by
 unfold bQ
 rw [List.length_map]
 exact ol p n 0
theorem sP : ∀ n : Fin 9, sQ n = ((2 ^ n.val - 1 : Nat) : Int) := by decide +kernel
theorem sM (a : Int) (l : List S69) (h0 : 0 ≤ a) (h8 : a ≤ 8) : ir a l = some ((2 ^ a.toNat - 1 : Nat) : Int) := by
 unfold ir
 rw [if_pos h0]
 obtain ⟨i, rfl⟩ := dB (n := 9) h0 (by omega)
 exact congrArg some (sP i)
def PredN (g : Nat) (lb : Array Value) (p : Int → Bool) (N : Nat) (w : World) : Prop :=
 ∀ (W : World) (b : Int), 0 ≤ b → b < (N : Int) → Below w.heap.size w W → Calls Tryz.prog g (#[.int .u64 b] ++ lb) W fun e w' => e = .returned (.bool (p b)) ∧ Below W.heap.size W w'
theorem PredN.mono {g : Nat} {lb : Array Value} {p : Int → Bool} {N : Nat} {w w' : World} (h : PredN g lb p N w) (hb : Below w.heap.size w w') : PredN g lb p N w' := fun W b h0 h1 h2 => h W b h0 h1 (ah hb h2)
set_option maxHeartbeats 2000000 in
theorem oa (g : Nat) (lb : Array Value) (eg : ∀ (args : Array Value) (w : World), (callFunc g args).run Tryz.prog w = .ok (.enter g args) w) (p : Int → Bool) (a0 : Int) (h0 : 0 ≤ a0) (h8 : a0 ≤ 8) (A1 : Option Addr) (c1 : Nat) (l1 : List S69) (w : World)
  (hr : Kd.C k69 w A1 l1.length l1) (hc : l1.length ≤ c1) (hp : PredN g lb p (2 ^ a0.toNat) w) :
  Calls Tryz.prog 97 #[.agg #[.int .i64 a0, .slice A1 l1.length c1], .func (.func g) #[] lb] w fun e w' => ∃ v : Value, e = .returned v ∧ Kd.S (Kd.slice 3 (Kd.int .i64)) 25 w' w.heap.size (fun _ => True) v (bJ (bQ p (2 ^ a0.toNat))) ∧ Below w.heap.size w w' := by
 have hu43 := Tryz.underlying30
 have hpow : 2 ^ a0.toNat ≤ 256 := Nat.pow_le_pow_right (n := 2) (by decide) (show a0.toNat ≤ 8 by omega)
 have hpos : 0 < 2 ^ a0.toNat := Nat.pow_pos (by decide)
 obtain ⟨M, hM⟩ : ∃ M : Nat, 2 ^ a0.toNat = M + 1 := ⟨2 ^ a0.toNat - 1, by omega⟩
 have hall := sM a0 l1 h0 h8
 rw [hM, Nat.add_sub_cancel] at hall
 rw [hM] at hpow hp ⊢
 have HAL := zM hall
 have HM := zM hpow
 have HR := zM hr
 have HC := zM hc
 have HP := zM hp
 have HB := zM (Below.refl w.heap.size w)
 clear hr hc hp hall hpow hpos hM h0 h8
 go_enter Tryz.func97, Tryz.ntmps97
 go_wp2_with (first | ((with_reducible refine ap (N := 2) rfl ?_); refine zb (w := w) 2 #[.int .i64 a0, .slice A1 l1.length c1] 30 zB ?_; clear HB; intro gb w3 HB BK GW) | ((with_reducible refine ap (N := 7) rfl ?_); refine Kd.S_lit (Kd.slice 3 (Kd.int .i64)) _ 25 ?hg (N := 7) ?hd (xs := ([] : List (List Int))) (inner := []) (ok := fun _ => True) (okp := fun _ => True) ?hr ?hp (fun _ hk => hk) trivial (Below.refl _ _) (au _) (by simp) ?_; (case hd => rfl); (case hg => rfl); (case hr => first | (go_simp; done) | (go_simp; rfl)); (case hp => exact (Reps.none _ _)); intro v4 w4 ho5 hb hg_ hnew_; clear hg_ hnew_; have HO := zM (Kd.S_lower ho5 (ai zB)); replace BK := zM (aM (zK BK.out) hb); replace HB := zM (ah zB hb); clear hb ho5))
 go_loopg [5, 6] (M + 2) (fun kq v5 v6 w' => ∃ (m : Nat), v6 = .int .u64 (m : Int) ∧ Aside0 (m ≤ M + 1) ∧ Aside0 (kq = M + 2 - m) ∧ Aside0 (Kd.S (Kd.slice 3 (Kd.int .i64)) 25 w' w.heap.size (fun _ => True) v5 (bQ p m)) ∧ Aside0 (w'.heap[gb]? = some (.cells #[.int .i64 a0, .slice A1 l1.length c1] 30 (0, 0))) ∧ Aside0 (Below w.heap.size w w'))
 case atStart => exact ⟨0, by first | rfl | (simp; done), ⟨Nat.zero_le _⟩, ⟨by omega⟩, HO, BK, HB⟩
 case round =>
  clear HO BK HB
  obtain ⟨m, rfl, HM1, HK1, HO, BK, HB⟩ := hrel
  have hcz0 := zy BK 0
  have hcz1 := zy BK 1
  have hfz0 := ae BK.out 0
  have hfz1 := ae BK.out 1
  by_cases c1_ : m ≤ M
  · have q1 : (m : Int) ≤ (M : Int) := by omega
    have c1b : decide ((m : Int) ≤ (M : Int)) = true := ag q1
    have c1c : decide (m ≤ M) = true := ag c1_
    have HW := zM (show IntKind.u64.wrap ((m : Int) + 1) = ((m + 1 : Nat) : Int) by have := HM.out; show ((m : Int) + 1) % 18446744073709551616 = _; omega)
    have HLe := zM c1_
    have HX := zM (HP.out.mono HB.out)
    have HLn := zM (gL p m)
    have HS := zM (mg p m)
    obtain ⟨kf, hf⟩ := Ev.rounds (sH (m : Int))
    have HF := zM hf
    clear q1 c1_ hf
    cases hq : p (m : Int) with
    | true =>
     rw [hq, if_pos rfl] at HS
     have HQ := zM hq
     clear hq
     generalize bQ p m = xs at HO HLn HS
     go_wp2_with (first
      | (go_at_call 122; refine (jy a0 _ _ l1 (M : Int) _ (zC (Kd.C_below HR.out HB.out)) HC.out HAL.out).mono ?_; rintro e w5 ⟨rfl, hb⟩; replace HO := zM (Kd.S_below HO.out hb); replace BK := zM (aM (zK BK.out) hb); replace HX := zM (HX.out.mono hb); replace HB := zM (ah zB hb); clear hb)
      | (go_at_fn g; refine (HX.out _ (m : Int) (by omega) (by have := HLe.out; omega) (Below.refl _ _)).mono ?_; rw [HQ.out]; rintro e w6 ⟨rfl, hb⟩; replace HO := zM (Kd.S_below HO.out hb); replace BK := zM (aM (zK BK.out) hb); replace HB := zM (ah zB hb); clear hb)
      | (go_at_call 76; refine (qp kf _ (aH (aI (m : Int)) 8 0) _ HF.out).mono ?_; rintro e w7 ⟨v7, rfl, ho0, hb⟩; replace HO := zM (Kd.S_elder' HO.out (Kd.R_base ho0) hb); have HI := zM (Kd.R_lower ho0 (ai zB)); replace BK := zM (aM (zK BK.out) hb); replace HB := zM (ah zB hb); clear ho0 hb; generalize aH (aI (m : Int)) 8 0 = row at HI HS; obtain ⟨Ao, co, eo⟩ := Kd.R_slice HI.out; subst eo)
      | ((with_reducible refine bv (b := .append) (xs := #[.tmp 17, .tmp 20]) rfl ?_); at_builtin; refine Kd.S_append (Kd.slice 3 (Kd.int .i64)) (w0 := w) w.heap.size rfl (.tmp 17) (.tmp 20) 27 25 (.slice none 0 0) 24 rfl Tryz.underlying27 bP rfl (by decide) (by omega) u5 xs row [.slice Ao row.length co] (fun _ => True) (fun k_ => some k_ = (.slice Ao row.length co : Value).ownBlock) rfl rfl ?aP (fun k_ hk_ => ((Kd.R_mono (ok' := fun k_ => ((fun _ => True)) k_ ∧ some k_ ≠ (u5 : Value).ownBlock) (Kd.R_apart' (HI.out) (Kd.S_typed HO.out) (by decide)) (fun k_ hk => ⟨trivial, hk.2⟩))).1 k_ hk_.symm) ?aF ?aO ?aB ?aS ?aL ?_; (case aP => exact Kd.M_row (Kd.R_mono (Kd.R_tight rfl (Kd.R_mono (ok' := fun k_ => ((fun _ => True)) k_ ∧ some k_ ≠ (u5 : Value).ownBlock) (Kd.R_apart' (HI.out) (Kd.S_typed HO.out) (by decide)) (fun k_ hk => ⟨trivial, hk.2⟩))) (fun _ h_ => h_))); (case aB => exact zB); (case aF => exact (fun _ _ => trivial)); (case aO => exact (by (with_reducible repeat (first | apply Kd.S_alloc | apply Kd.S_drewN | apply Kd.S_drew)); exact Kd.S_mono HO.out (fun k_ hk => ⟨trivial, fun e_ => hk.2 e_⟩))); (case aS => exact (ai zB)); (case aL => have := HLn.out; have := HM.out; have := HLe.out; omega); intro v8 w8 ho hb hg hat; rw [← HS.out] at ho; replace BK := zM (ba (zK BK.out) hg (Kd.S_ne HO.out BK.out (by decide))); replace HB := zM hb; replace HO := zM ho; clear ho hb hg hat))
     go_roundg (M + 1 - m)
     case measure => have := HK1.out; have := HLe.out; omega
     case rel => exact ⟨m + 1, by first | rfl | exact congrArg (Value.int .u64) HW.out | (rw [HW.out]; done), ⟨by have := HLe.out; omega⟩, ⟨by omega⟩, HO, BK, HB⟩
    | false =>
     rw [hq, if_neg (by decide), List.append_nil] at HS
     have HQ := zM hq
     clear hq
     rw [← HS.out] at HO
     go_wp2_with (first
      | (go_at_call 122; refine (jy a0 _ _ l1 (M : Int) _ (zC (Kd.C_below HR.out HB.out)) HC.out HAL.out).mono ?_; rintro e w5 ⟨rfl, hb⟩; replace HO := zM (Kd.S_below HO.out hb); replace BK := zM (aM (zK BK.out) hb); replace HX := zM (HX.out.mono hb); replace HB := zM (ah zB hb); clear hb)
      | (go_at_fn g; refine (HX.out _ (m : Int) (by omega) (by have := HLe.out; omega) (Below.refl _ _)).mono ?_; rw [HQ.out]; rintro e w6 ⟨rfl, hb⟩; replace HO := zM (Kd.S_below HO.out hb); replace BK := zM (aM (zK BK.out) hb); replace HB := zM (ah zB hb); clear hb))
     go_roundg (M + 1 - m)
     case measure => have := HK1.out; have := HLe.out; omega
     case rel => exact ⟨m + 1, by first | rfl | exact congrArg (Value.int .u64) HW.out | (rw [HW.out]; done), ⟨by have := HLe.out; omega⟩, ⟨by omega⟩, HO, BK, HB⟩
  · have q1 : ¬ (m : Int) ≤ (M : Int) := by omega
    have c1b : decide ((m : Int) ≤ (M : Int)) = false := ar q1
    have c1c : decide (m ≤ M) = false := ar c1_
    have hm : m = M + 1 := by have := HM1.out; omega
    have HE := zM hm
    have HLn := zM (gL p m)
    clear q1 c1_ hm
    go_wp2_with (first
      | (go_at_call 122; refine (jy a0 _ _ l1 (M : Int) _ (zC (Kd.C_below HR.out HB.out)) HC.out HAL.out).mono ?_; rintro e w5 ⟨rfl, hb⟩; replace HO := zM (Kd.S_below HO.out hb); replace BK := zM (aM (zK BK.out) hb); replace HB := zM (ah zB hb); clear hb)
      | (go_at_call 86; refine (sortLists.calls (fun _ => True) _ (bQ p m) w _ HB.out HO.out (by have := HLn.out; have := HE.out; have := HM.out; omega)).mono ?_; rintro e w9 ⟨rfl, ho, hb, hk⟩; replace HO := zM (Kd.S_mono (ok' := fun _ => True) ho (fun _ _ => trivial)); replace HB := zM hb; clear ho hb hk))
    go_ret
    exact ⟨_, rfl, by rw [← HE.out]; exact HO.out, HB.out⟩
section
variable {α : Type} {d : Kd α} {e base : Nat} {ok S : Nat → Prop} {w W W1 : World} {v : Value} {xs : List α} {g : Nat} {o : Obj}
theorem uR (hB : Below w.heap.size w W) (h : d.R e W1 W.heap.size (fun _ => True) v xs) : Aside0 (d.R e W1 w.heap.size (fun k => W.heap.size ≤ k ∧ k < W1.heap.size) v xs) :=
 ⟨Kd.R_mono (Kd.R_lower (Kd.R_bound h) (ai hB)) (fun k hk => ⟨hk.2.1, hk.2.2.1⟩)⟩
theorem uS (hB : Below w.heap.size w W) (h : Kd.S d e W1 W.heap.size (fun _ => True) v xs) : Aside0 (Kd.S d e W1 w.heap.size (fun k => W.heap.size ≤ k ∧ k < W1.heap.size) v xs) :=
 ⟨Kd.S_mono (Kd.S_lower (Kd.S_bound h) (ai hB)) (fun k hk => ⟨hk.2.1, hk.2.2.1⟩)⟩
theorem uV (hB : Below w.heap.size w W) (h : Kd.V d e W1 W.heap.size (fun k_ => W.heap.size ≤ k_) v xs) : Aside0 (Kd.V d e W1 w.heap.size (fun k => W.heap.size ≤ k ∧ k < W1.heap.size) v xs) :=
 ⟨Kd.V_mono (Kd.V_lower (Kd.V_bound h) (ai hB)) (fun k hk => ⟨hk.1, hk.2⟩)⟩
theorem bN (h : Aside0 (Kd.V d e W base ok v xs)) (hb : Below W.heap.size W W1) : Aside0 (Kd.V d e W1 base ok v xs) := ⟨Kd.V_below h.out hb⟩
theorem fU (h : Aside0 (Kd.V d e W base ok v xs)) (hk : Kept W W1 S) (hne : ∀ k, ok k → ¬ S k) : Aside0 (Kd.V d e W1 base ok v xs) := ⟨Kd.V_kept h.out hk hne⟩
theorem bc (h : Aside0 (d.R e W base ok v xs)) (hb : Below W.heap.size W W1) : Aside0 (d.R e W1 base ok v xs) := ⟨Kd.R_below h.out hb⟩
theorem ci (h : Aside0 (Kd.S d e W base ok v xs)) (hb : Below W.heap.size W W1) : Aside0 (Kd.S d e W1 base ok v xs) := ⟨Kd.S_below h.out hb⟩
theorem bk (h : Aside0 (W.heap[g]? = some o)) (hb : Below W.heap.size W W1) : Aside0 (W1.heap[g]? = some o) := ⟨aM h.out hb⟩
theorem gV (h : Aside0 (d.R e W base ok v xs)) (hk : Kept W W1 S) (hne : ∀ k, ok k → ¬ S k) : Aside0 (d.R e W1 base ok v xs) := ⟨Kd.R_kept h.out hk hne⟩
theorem iF (h : Aside0 (Kd.S d e W base ok v xs)) (hk : Kept W W1 S) (hne : ∀ k, ok k → ¬ S k) : Aside0 (Kd.S d e W1 base ok v xs) := ⟨Kd.S_kept h.out hk hne⟩
theorem fV (h : Aside0 (W.heap[g]? = some o)) (hk : Kept W W1 S) (hne : ¬ S g) : Aside0 (W1.heap[g]? = some o) := ⟨gP h.out hk hne⟩
theorem kj {P : Program} {f : FuncId} {args : Array Value} {Q : Ending → World → Prop} {t : TypeId} {x y a b : Value} (hb : Aside0 (W.heap[g]? = some (.cells #[x, y] t (0, 0)))) (hB : Aside0 (Below w.heap.size w W)) (hg : w.heap.size ≤ g)
  (h : ∀ W', Aside0 (W'.heap[g]? = some (.cells #[a, b] t (0, 0))) → Kept W W' (fun k => k = g) → Aside0 (Below w.heap.size w W') → Calls P f args W' Q) : Calls P f args ((W.setCell ⟨g, 0, none⟩ a).setCell ⟨g, 1, none⟩ b) Q :=
 h _ ⟨aD (cs := #[a, y]) (aD (cs := #[x, y]) hb.out 0 a rfl) 1 b rfl⟩ (Kept.setCell (Kept.setCell (Kept.refl W (fun k => k = g)) (p := ⟨g, 0, none⟩) (.inl rfl) a) (p := ⟨g, 1, none⟩) (.inl rfl) b) ⟨bq (bq hB.out hg) hg⟩
theorem km {P : Program} {f : FuncId} {args args' : Array Value} {Q : Ending → World → Prop} (h : args = args') (k : Calls P f args' W Q) : Calls P f args W Q := h ▸ k
end
end Go.Proofs.YtadjbmcfgjmhkaaGreat.P
