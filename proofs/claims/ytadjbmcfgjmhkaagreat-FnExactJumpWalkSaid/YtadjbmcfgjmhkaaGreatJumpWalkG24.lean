import Derived.Test.YtadjbmcfgjmhkaaGreatJumpWalkG23
namespace Go.Proofs.YtadjbmcfgjmhkaaGreat.P
open Go.RowKit YtadjbmcfgjmhkaaGreatW.PrintWords YtadjbmcfgjmhkaaGreatW.PrintLast YtadjbmcfgjmhkaaGreatW.PrintMore
attribute [local go_sem] aY aU aV aN aW aQ aX aT
set_option maxRecDepth 100000
set_option maxHeartbeats 8000000
def jK (a0 : Int) : Option (Int) := some (Go.bits .and .i64 (wrap64 (IntKind.u64.wrap ((IntKind.u64.wrap ((IntKind.u64.wrap ((Go.bits .and .u64 (IntKind.u64.wrap (((IntKind.u64.wrap ((Go.bits .and .u64 ((IntKind.u64.wrap ((Go.bits .and .u64 (a0 / 2) 6148914691236517205) + (Go.bits .and .u64 a0 6148914691236517205))) / 4) 3689348814741910323) + (Go.bits .and .u64 (IntKind.u64.wrap ((Go.bits .and .u64 (a0 / 2) 6148914691236517205) + (Go.bits .and .u64 a0 6148914691236517205))) 3689348814741910323))) / 16) + (IntKind.u64.wrap ((Go.bits .and .u64 ((IntKind.u64.wrap ((Go.bits .and .u64 (a0 / 2) 6148914691236517205) + (Go.bits .and .u64 a0 6148914691236517205))) / 4) 3689348814741910323) + (Go.bits .and .u64 (IntKind.u64.wrap ((Go.bits .and .u64 (a0 / 2) 6148914691236517205) + (Go.bits .and .u64 a0 6148914691236517205))) 3689348814741910323))))) 1085102592571150095) + ((Go.bits .and .u64 (IntKind.u64.wrap (((IntKind.u64.wrap ((Go.bits .and .u64 ((IntKind.u64.wrap ((Go.bits .and .u64 (a0 / 2) 6148914691236517205) + (Go.bits .and .u64 a0 6148914691236517205))) / 4) 3689348814741910323) + (Go.bits .and .u64 (IntKind.u64.wrap ((Go.bits .and .u64 (a0 / 2) 6148914691236517205) + (Go.bits .and .u64 a0 6148914691236517205))) 3689348814741910323))) / 16) + (IntKind.u64.wrap ((Go.bits .and .u64 ((IntKind.u64.wrap ((Go.bits .and .u64 (a0 / 2) 6148914691236517205) + (Go.bits .and .u64 a0 6148914691236517205))) / 4) 3689348814741910323) + (Go.bits .and .u64 (IntKind.u64.wrap ((Go.bits .and .u64 (a0 / 2) 6148914691236517205) + (Go.bits .and .u64 a0 6148914691236517205))) 3689348814741910323))))) 1085102592571150095) / 256))) + ((IntKind.u64.wrap ((Go.bits .and .u64 (IntKind.u64.wrap (((IntKind.u64.wrap ((Go.bits .and .u64 ((IntKind.u64.wrap ((Go.bits .and .u64 (a0 / 2) 6148914691236517205) + (Go.bits .and .u64 a0 6148914691236517205))) / 4) 3689348814741910323) + (Go.bits .and .u64 (IntKind.u64.wrap ((Go.bits .and .u64 (a0 / 2) 6148914691236517205) + (Go.bits .and .u64 a0 6148914691236517205))) 3689348814741910323))) / 16) + (IntKind.u64.wrap ((Go.bits .and .u64 ((IntKind.u64.wrap ((Go.bits .and .u64 (a0 / 2) 6148914691236517205) + (Go.bits .and .u64 a0 6148914691236517205))) / 4) 3689348814741910323) + (Go.bits .and .u64 (IntKind.u64.wrap ((Go.bits .and .u64 (a0 / 2) 6148914691236517205) + (Go.bits .and .u64 a0 6148914691236517205))) 3689348814741910323))))) 1085102592571150095) + ((Go.bits .and .u64 (IntKind.u64.wrap (((IntKind.u64.wrap ((Go.bits .and .u64 ((IntKind.u64.wrap ((Go.bits .and .u64 (a0 / 2) 6148914691236517205) + (Go.bits .and .u64 a0 6148914691236517205))) / 4) 3689348814741910323) + (Go.bits .and .u64 (IntKind.u64.wrap ((Go.bits .and .u64 (a0 / 2) 6148914691236517205) + (Go.bits .and .u64 a0 6148914691236517205))) 3689348814741910323))) / 16) + (IntKind.u64.wrap ((Go.bits .and .u64 ((IntKind.u64.wrap ((Go.bits .and .u64 (a0 / 2) 6148914691236517205) + (Go.bits .and .u64 a0 6148914691236517205))) / 4) 3689348814741910323) + (Go.bits .and .u64 (IntKind.u64.wrap ((Go.bits .and .u64 (a0 / 2) 6148914691236517205) + (Go.bits .and .u64 a0 6148914691236517205))) 3689348814741910323))))) 1085102592571150095) / 256))) / 65536))) + ((IntKind.u64.wrap ((IntKind.u64.wrap ((Go.bits .and .u64 (IntKind.u64.wrap (((IntKind.u64.wrap ((Go.bits .and .u64 ((IntKind.u64.wrap ((Go.bits .and .u64 (a0 / 2) 6148914691236517205) + (Go.bits .and .u64 a0 6148914691236517205))) / 4) 3689348814741910323) + (Go.bits .and .u64 (IntKind.u64.wrap ((Go.bits .and .u64 (a0 / 2) 6148914691236517205) + (Go.bits .and .u64 a0 6148914691236517205))) 3689348814741910323))) / 16) + (IntKind.u64.wrap ((Go.bits .and .u64 ((IntKind.u64.wrap ((Go.bits .and .u64 (a0 / 2) 6148914691236517205) + (Go.bits .and .u64 a0 6148914691236517205))) / 4) 3689348814741910323) + (Go.bits .and .u64 (IntKind.u64.wrap ((Go.bits .and .u64 (a0 / 2) 6148914691236517205) + (Go.bits .and .u64 a0 6148914691236517205))) 3689348814741910323))))) 1085102592571150095) + ((Go.bits .and .u64 (IntKind.u64.wrap (((IntKind.u64.wrap ((Go.bits .and .u64 ((IntKind.u64.wrap ((Go.bits .and .u64 (a0 / 2) 6148914691236517205) + (Go.bits .and .u64 a0 6148914691236517205))) / 4) 3689348814741910323) + (Go.bits .and .u64 (IntKind.u64.wrap ((Go.bits .and .u64 (a0 / 2) 6148914691236517205) + (Go.bits .and .u64 a0 6148914691236517205))) 3689348814741910323))) / 16) + (IntKind.u64.wrap ((Go.bits .and .u64 ((IntKind.u64.wrap ((Go.bits .and .u64 (a0 / 2) 6148914691236517205) + (Go.bits .and .u64 a0 6148914691236517205))) / 4) 3689348814741910323) + (Go.bits .and .u64 (IntKind.u64.wrap ((Go.bits .and .u64 (a0 / 2) 6148914691236517205) + (Go.bits .and .u64 a0 6148914691236517205))) 3689348814741910323))))) 1085102592571150095) / 256))) + ((IntKind.u64.wrap ((Go.bits .and .u64 (IntKind.u64.wrap (((IntKind.u64.wrap ((Go.bits .and .u64 ((IntKind.u64.wrap ((Go.bits .and .u64 (a0 / 2) 6148914691236517205) + (Go.bits .and .u64 a0 6148914691236517205))) / 4) 3689348814741910323) + (Go.bits .and .u64 (IntKind.u64.wrap ((Go.bits .and .u64 (a0 / 2) 6148914691236517205) + (Go.bits .and .u64 a0 6148914691236517205))) 3689348814741910323))) / 16) + (IntKind.u64.wrap ((Go.bits .and .u64 ((IntKind.u64.wrap ((Go.bits .and .u64 (a0 / 2) 6148914691236517205) + (Go.bits .and .u64 a0 6148914691236517205))) / 4) 3689348814741910323) + (Go.bits .and .u64 (IntKind.u64.wrap ((Go.bits .and .u64 (a0 / 2) 6148914691236517205) + (Go.bits .and .u64 a0 6148914691236517205))) 3689348814741910323))))) 1085102592571150095) + ((Go.bits .and .u64 (IntKind.u64.wrap (((IntKind.u64.wrap ((Go.bits .and .u64 ((IntKind.u64.wrap ((Go.bits .and .u64 (a0 / 2) 6148914691236517205) + (Go.bits .and .u64 a0 6148914691236517205))) / 4) 3689348814741910323) + (Go.bits .and .u64 (IntKind.u64.wrap ((Go.bits .and .u64 (a0 / 2) 6148914691236517205) + (Go.bits .and .u64 a0 6148914691236517205))) 3689348814741910323))) / 16) + (IntKind.u64.wrap ((Go.bits .and .u64 ((IntKind.u64.wrap ((Go.bits .and .u64 (a0 / 2) 6148914691236517205) + (Go.bits .and .u64 a0 6148914691236517205))) / 4) 3689348814741910323) + (Go.bits .and .u64 (IntKind.u64.wrap ((Go.bits .and .u64 (a0 / 2) 6148914691236517205) + (Go.bits .and .u64 a0 6148914691236517205))) 3689348814741910323))))) 1085102592571150095) / 256))) / 65536))) / 4294967296)))) 127)
theorem sG (a0 : Int) (r : Int) (w : World) (h : jK a0 = some r) :
 Calls Tryz.prog 135 #[.int .u64 a0] w fun e w' => e = .returned (.int .i64 r) ∧ Drawn0 w w' := by
 have H := h
 unfold jK at H
 clear h
 obtain rfl := ao H
 go_enter Tryz.func135, Tryz.ntmps135
 go_wp2
 go_ret
 exact ⟨by first | rfl | (simp; done) | (simp [*]; done), by repeat (first | exact Drawn0.refl _ | apply Drawn0.step)⟩
def jL (a0 : Int) : Option (Int) := (jK a0).bind fun t266 => (some t266)
theorem sH (a0 : Int) (r : Int) (w : World) (h : jL a0 = some r) :
 Calls Tryz.prog 106 #[.int .u64 a0] w fun e w' => e = .returned (.int .i64 r) ∧ Below w.heap.size w w' := by
 have HB := zM (Below.refl w.heap.size w)
 have H := h
 unfold jL at H
 clear h
 replace H := ay H
 obtain ⟨t266, A20, H⟩ := H
 have A2 := Aside0.mk A20
 clear A20
 obtain rfl := ao H
 go_enter Tryz.func106, Tryz.ntmps106
 go_wp2_with (first | ((with_reducible refine ax (f := 135) rfl ?_); refine zc 7 Tryz.func135 #[.int .u64 a0] ?_; (with_reducible refine (sG a0 t266 _ A2.out).mono ?_); rintro e w' ⟨rfl, ⟨nd, rfl⟩⟩; refine ⟨_, rfl, ?_⟩))
 go_ret
 exact ⟨by first | rfl | (simp [al, ak] <;> rfl) | (simp [*, al, ak] <;> rfl), zB⟩
def dN (a0 : Int) : Option (Int) := (jL a0).bind fun t267 => (some t267)
theorem fB (a0 : Int) (r : Int) (w : World) (h : dN a0 = some r) :
 Calls Tryz.prog 89 #[.int .u64 a0] w fun e w' => e = .returned (.int .i64 r) ∧ Below w.heap.size w w' := by
 have HB := zM (Below.refl w.heap.size w)
 have H := h
 unfold dN at H
 clear h
 replace H := ay H
 obtain ⟨t267, A20, H⟩ := H
 have A2 := Aside0.mk A20
 clear A20
 obtain rfl := ao H
 go_enter Tryz.func89, Tryz.ntmps89
 go_wp2_with (first | ((with_reducible refine ax (f := 106) rfl ?_); refine zc 4 Tryz.func106 #[.int .u64 a0] ?_; (with_reducible refine (sH a0 t267 _ A2.out).mono ?_); rintro e w3 ⟨rfl, hb⟩; refine ⟨_, rfl, ?_⟩; replace HB := zM (ah zB hb); (try clear hb); (try clear hi)))
 go_ret
 exact ⟨by first | rfl | (simp [al, ak] <;> rfl) | (simp [*, al, ak] <;> rfl), zB⟩
def ir (a0_0 : Int) (l0_1 : List (S69)) : Option (Int) := if 0 ≤ a0_0 then (some (IntKind.u64.wrap ((cO .u64 1 a0_0) - 1))) else (none)
theorem jy (a0_0 : Int) (A0_1 : Option Addr) (c0_1 : Nat) (l0_1 : List (S69)) (r : Int) (w : World) (hr0_1 : Kd.C k69 w A0_1 l0_1.length l0_1) (hc0_1 : l0_1.length ≤ c0_1) (h : ir a0_0 l0_1 = some r) :
 Calls Tryz.prog 122 #[.agg #[.int .i64 a0_0, .slice A0_1 l0_1.length c0_1]] w fun e w' => e = .returned (.int .u64 r) ∧ Below w.heap.size w w' := by
 have hu30 := Tryz.underlying30
 have HR0_1 := Aside0.mk hr0_1
 have HC0_1 := Aside0.mk hc0_1
 clear hr0_1 hc0_1
 have HB := zM (Below.refl w.heap.size w)
 have H := h
 unfold ir at H
 clear h
 by_cases c2 : 0 ≤ a0_0
 case neg => rw [if_neg c2] at H; simp at H
 rw [if_pos c2] at H
 have c2b0 := eq_true c2
 have c2b1 : decide (0 ≤ a0_0) = true := ag c2
 clear c2
 obtain ⟨ji3, hji3⟩ : ∃ j_ : Int, (cO .u64 1 a0_0) = j_ := ⟨_, rfl⟩
 replace H : (some (IntKind.u64.wrap ((ji3) - 1))) = some r := by first | (rw [hji3] at H; exact H) | (simp only [hji3] at H ⊢; exact H)
 have hji3_ : (IntKind.u64.wrap (1 * 2 ^ min a0_0.toNat 64)) = ji3 := hji3
 have hji3z : a0_0 ≤ 64 → (IntKind.u64.wrap (1 * 2 ^ a0_0.toNat)) = ji3 := iZ hji3
 have hji3u : (IntKind.u64.wrap (2 ^ min a0_0.toNat 64)) = ji3 := by have h_ := hji3_; rw [Int.one_mul] at h_; exact h_
 have hji3v : a0_0 ≤ 64 → (IntKind.u64.wrap (2 ^ a0_0.toNat)) = ji3 := fun hle_ => by have h_ := hji3z hle_; rw [Int.one_mul] at h_; exact h_
 obtain rfl := ao H
 go_enter Tryz.func122, Tryz.ntmps122
 go_wp2_with (first | ((with_reducible refine ap (N := 1) rfl ?_); refine zb (w := w) 1 #[.int .i64 a0_0, .slice A0_1 l0_1.length c0_1] 30 zB ?_; clear HB; intro gb268 w4 HB BK268 GW268; have GE268 := GW268; have hcz5_0 := zy BK268 0; have hcz5_1 := zy BK268 1; have hfz5_0 := ae BK268.out 0; have hfz5_1 := ae BK268.out 1))
 go_ret
 exact ⟨by first | rfl | (simp [al, ak] <;> rfl) | (simp only [← hji3]; first | rfl | (simp [al, ak] <;> rfl)) | (simp [*, al, ak] <;> rfl), zB⟩
def cD : Nat → Int → List Int → Int → Option (List Int)
 | 0, _, _, _ => none
 | k + 1, x0, x3, x6 => if x6 < 8 then (if 0 ≤ x6 then (if (Go.bits .and .u64 (cN .u64 x0 x6) 1) = 1 then (if x3.length < 17592186044416 then (cD k x0 (x3 ++ [x6]) (wrap64 (x6 + 1))) else (none)) else (cD k x0 x3 (wrap64 (x6 + 1)))) else (none)) else (some x3)
def im (k : Nat) (a0 : Int) : Option (List Int) := cD k a0 (([] : List Int)) 0
theorem qw (k : Nat) (a0 : Int) (r : List Int) (w : World) (h : im k a0 = some r) :
 Calls Tryz.prog 76 #[.int .u64 a0] w fun e w' => ∃ v0_ : Value, e = .returned (v0_) ∧ Kd.R (Kd.int .i64) 3 w' w.heap.size (fun _ => True) v0_ r ∧ Below w.heap.size w w' := by
 have HB := zM (Below.refl w.heap.size w)
 have H := h
 unfold im at H
 clear h
 obtain ⟨y269, hy269⟩ : ∃ y_ : List Int, y_ = (([] : List Int)) := ⟨_, rfl⟩
 replace H : (cD k a0 y269 0) = some r := by first | (rw [hy269]; with_reducible exact H) | (have H2_ := (Option.bind_some _ _).symm.trans H; rw [hy269]; with_reducible exact H2_) | (have H2_ := (Option.bind_some _ _).symm.trans H; with_reducible exact H2_) | with_reducible exact H | (rw [hy269]; exact H) | exact H
 have Ny269 := Aside0.mk hy269
 clear hy269
 have H' := Aside0.mk H
 clear H
 go_enter Tryz.func76, Tryz.ntmps76
 go_wp2_with (first | ((with_reducible refine ap (N := 5) rfl ?_); refine Kd.R_lit (Kd.int .i64) _ 3 ?hg (N := 5) ?hd (xs := ([] : List Int)) (inner := []) (ok := fun _ => True) (okp := fun _ => True) ?hr ?hp (fun _ hk => hk) trivial (Below.refl _ _) (au _) (by simp) ?_; (case hd => rfl); (case hg => rfl); (case hr => first | (go_simp; done) | (go_simp; rfl)); (case hp => exact (Reps.none _ _)); intro v270 w2 ho3 hb hg_ hnew_; clear hg_ hnew_; (first | rw [← Ny269.out] at ho3 | (simp only [Int.reduceToNat] at ho3; rw [← Ny269.out] at ho3)); have HO271 := zM (Kd.R_lower ho3 (ai zB)); replace HB := zM (ah zB hb); clear hb ho3))
 go_loopg [3, 6] k (fun kq v3 v6 w' => ∃ (x3_1 : List Int) (x6_1 : Int), v6 = .int .i64 x6_1 ∧ Aside0 (cD kq a0 x3_1 x6_1 = some r) ∧ Aside0 (kq ≤ k) ∧ Aside0 (Kd.R (Kd.int .i64) 3 w' w.heap.size (fun _ => True) v3 x3_1) ∧ Aside0 (Below w.heap.size w w'))
 case atStart => exact ⟨(y269), (0), (by first | rfl | (simp; done) | (simp [*]; done)), H', ⟨au _⟩, ⟨zR HO271.out⟩, ⟨zB⟩⟩
 case round =>
  clear H'
  try clear p2
  obtain ⟨x3_1, x6_1, rfl, HA, HK1, HO_3, HB⟩ := hrel
  cases gk with
  | zero => exact absurd HA.out (by simp [cD])
  | succ k1 =>
   have H := HA.out
   clear HA
   simp only [cD] at H
   by_cases c4 : x6_1 < 8
   · rw [if_pos c4] at H
     have c4b0 := ag c4
     clear c4
     by_cases c5 : 0 ≤ x6_1
     case neg => rw [if_neg c5] at H; simp at H
     rw [if_pos c5] at H
     have c5b0 := eq_true c5
     have c5b1 : decide (0 ≤ x6_1) = true := ag c5
     clear c5
     obtain ⟨ji6, hji6⟩ : ∃ j_ : Int, (cN .u64 a0 x6_1) = j_ := ⟨_, rfl⟩
     replace H : (if (Go.bits .and .u64 (ji6) 1) = 1 then (if x3_1.length < 17592186044416 then (cD k1 a0 (x3_1 ++ [x6_1]) (wrap64 (x6_1 + 1))) else (none)) else (cD k1 a0 x3_1 (wrap64 (x6_1 + 1)))) = some r := by first | (rw [hji6] at H; exact H) | (simp only [hji6] at H ⊢; exact H)
     have hji6_ : (a0 / 2 ^ min x6_1.toNat 64) = ji6 := hji6
     have hji6z : x6_1 ≤ 64 → (a0 / 2 ^ x6_1.toNat) = ji6 := iY hji6
     by_cases c7 : (Go.bits .and .u64 (ji6) 1) = 1
     · rw [if_pos c7] at H
       have c7b0 : ((Go.bits .and .u64 (ji6) 1) == 1) = true := beq_iff_eq.mpr c7
       have c7b1 : ((Go.bits .and .u64 (ji6) 1) != 1) = false := bne_eq_false_iff_eq.mpr c7
       clear c7
       by_cases c8 : x3_1.length < 17592186044416
       case neg => rw [if_neg c8] at H; simp at H
       rw [if_pos c8] at H
       have LMc8 := Aside0.mk c8
       clear c8
       obtain ⟨y272, hy272⟩ : ∃ y_ : List Int, y_ = (x3_1 ++ [x6_1]) := ⟨_, rfl⟩
       replace H : (cD k1 a0 y272 (wrap64 (x6_1 + 1))) = some r := by first | (rw [hy272]; with_reducible exact H) | (have H2_ := (Option.bind_some _ _).symm.trans H; rw [hy272]; with_reducible exact H2_) | (have H2_ := (Option.bind_some _ _).symm.trans H; with_reducible exact H2_) | with_reducible exact H | (rw [hy272]; exact H) | exact H
       have Ny272 := Aside0.mk hy272
       clear hy272
       have H' := Aside0.mk H
       clear H
       go_wp2_with (first | ((with_reducible refine br (b := .append) (xs := #[.tmp 14, .tmp 16]) rfl ?_); at_builtin; refine Kd.R_append (Kd.int .i64) (w0 := w) w.heap.size rfl (.tmp 14) (.tmp 16) 25 3 (.int .i64 0) 8 rfl Tryz.underlying25 bq rfl (by decide) (by omega) u3 x3_1 x6_1 [.int .i64 x6_1] (fun _ => True) (fun _ => False) rfl rfl ?aP (fun _ hk => hk.elim) ?aF ?aO ?aB ?aS ?aL ?_; (case aP => exact rfl); (case aB => exact zB); (case aF => exact (fun _ _ => trivial)); (case aO => exact (zR HO_3.out)); (case aS => exact (ai zB)); (case aL => have := LMc8.out; omega); intro v273 w9 ho hb hg hat; rw [← Ny272.out] at ho; replace HB := zM (hb); have HO274 := zM (ho); clear HO_3; clear ho hb hg hat))
       go_roundg k1
       case measure => have := HK1.out; omega
       case rel => exact ⟨(y272), (wrap64 (x6_1 + 1)), (by first | rfl | (simp; done) | (simp [*]; done)), H', ⟨by have := HK1.out; omega⟩, ⟨zR HO274.out⟩, ⟨zB⟩⟩
     · rw [if_neg c7] at H
       have c7b0 : ((Go.bits .and .u64 (ji6) 1) == 1) = false := beq_eq_false_iff_ne.mpr c7
       have c7b1 : ((Go.bits .and .u64 (ji6) 1) != 1) = true := bne_iff_ne.mpr c7
       have H' := Aside0.mk H
       clear H
       go_wp2
       go_roundg k1
       case measure => have := HK1.out; omega
       case rel => exact ⟨(x3_1), (wrap64 (x6_1 + 1)), (by first | rfl | (simp; done) | (simp [*]; done)), H', ⟨by have := HK1.out; omega⟩, ⟨zR HO_3.out⟩, ⟨zB⟩⟩
   · rw [if_neg c4] at H
     have c4b0 : decide (x6_1 < 8) = false := ar c4
     clear c4
     obtain rfl := ao H
     go_wp2
     go_ret
     exact ⟨_, by first | rfl | (simp [al, ak] <;> rfl) | (simp [*, al, ak] <;> rfl), by (with_reducible repeat (first | apply Kd.R_alloc | apply Kd.R_drewN | apply Kd.R_drew)); exact HO_3.out, zB⟩
attribute [local go_sem] aY aU aV aN aW aQ aX aT
theorem ma {d : Nat} {e c : Nat} {xs ys : Array Value} {i : Nat} {is : List Nat} {a b : Value} {r s : Bool} {w : World} (ha : (part e xs (i * c)).run Tryz.prog w = .ok a w) (hb : (part e ys (i * c)).run Tryz.prog w = .ok b w) (he : (Op.equalIn d e a b).run Tryz.prog w = .ok r w) (hr : (Op.eqItems d e c xs ys is).run Tryz.prog w = .ok s w) : (Op.eqItems d e c xs ys (i :: is)).run Tryz.prog w = .ok (r && s) w := by
 rw [Op.eqItems]
 simp only [Sem.run_bind, ha, hb, he, Result.andThen_ok]
 cases r
 · simp
 · simpa using hr
theorem rT {d : Nat} {e c : Nat} {xs ys : Array Value} {i : Nat} {a b : Value} {r : Bool} {w : World} (ha : (part e xs (i * c)).run Tryz.prog w = .ok a w) (hb : (part e ys (i * c)).run Tryz.prog w = .ok b w) (he : (Op.equalIn d e a b).run Tryz.prog w = .ok r w) : (Op.eqItems d e c xs ys [i]).run Tryz.prog w = .ok r w := by
 have h := ma (is := []) (s := true) ha hb he (by simp [Op.eqItems])
 rwa [Bool.and_true] at h
theorem sa (d : Nat) (w : World) (x0 x1 y0 y1 : Int) :
 (Op.equalIn (d + 2) 69 (.agg #[.int .i64 x0, .int .i64 x1]) (.agg #[.int .i64 y0, .int .i64 y1])).run Tryz.prog w = .ok (x0 == y0 && (x1 == y1)) w := by
 obtain ⟨i_, hi_⟩ := Option.isSome_iff_exists.1 (by kernel_rfl : (Tryz.prog.info? 3).isSome = true)
 rw [show d + 2 = (d + 1) + 1 from rfl, run_equalIn_array w (d + 1) _ _ Tryz.underlying69 hi_, show Tryz.prog.cellsOf 3 = 1 from by kernel_rfl, show List.range 2 = [0, 1] from rfl]
 refine ma (by go_simp; rfl) (by go_simp; rfl) (by go_simp) ?_
 exact rT (by go_simp; rfl) (by go_simp; rfl) (by go_simp)
attribute [local go_sem] aY aU aV aN aW aQ aX aT
attribute [local go_sem high] sa
def fx (k : Nat) (l0 : List Int) (l1 : List Int) : Option (Int × Int) := (fC k l0).bind fun t278 => ((fC k l1).bind fun t279 => (some (Go.bits .andNot .u64 t278 t279, Go.bits .andNot .u64 t279 t278)))
theorem jt (k : Nat) (A0 : Option Addr) (c0 : Nat) (l0 : List Int) (A1 : Option Addr) (c1 : Nat) (l1 : List Int) (r1 : Int) (r2 : Int) (w : World) (hr0 : Kd.C (Kd.int .i64) w A0 l0.length l0) (hc0 : l0.length ≤ c0) (hr1 : Kd.C (Kd.int .i64) w A1 l1.length l1) (hc1 : l1.length ≤ c1) (h : fx k l0 l1 = some (r1, r2)) :
 Calls Tryz.prog 88 #[.slice A0 l0.length c0, .slice A1 l1.length c1] w fun e w' => e = .returned (.tuple #[.int .u64 r1, .int .u64 r2]) ∧ Drawn0 w w' := by
 have HR0 := Aside0.mk hr0
 have HC0 := Aside0.mk hc0
 clear hr0 hc0
 have HR1 := Aside0.mk hr1
 have HC1 := Aside0.mk hc1
 clear hr1 hc1
 have H := h
 unfold fx at H
 clear h
 replace H := ay H
 obtain ⟨t278, A30, H⟩ := H
 try dsimp only at H
 have A3 := Aside0.mk A30
 clear A30
 replace H := ay H
 obtain ⟨t279, A40, H⟩ := H
 try dsimp only at H
 have A4 := Aside0.mk A40
 clear A40
 simp only [Option.some.injEq, Prod.mk.injEq] at H
 obtain ⟨rfl, rfl⟩ := H
 go_enter Tryz.func88, Tryz.ntmps88
 go_wp2_with (first | ((with_reducible refine ax (f := 74) rfl ?_); refine zc 9 Tryz.func74 #[.slice A0 l0.length c0] ?_; (with_reducible refine (jv k _ _ l0 t278 _ ?side1 ?side2 A3.out).mono ?_); (case side1 => exact zC HR0.out); (case side2 => exact HC0.out); rintro e w' ⟨rfl, ⟨nd, rfl⟩⟩; refine ⟨_, rfl, ?_⟩) | ((with_reducible refine ax (f := 74) rfl ?_); refine zc 11 Tryz.func74 #[.slice A1 l1.length c1] ?_; (with_reducible refine (jv k _ _ l1 t279 _ ?side1 ?side2 A4.out).mono ?_); (case side1 => exact zC HR1.out); (case side2 => exact HC1.out); rintro e w' ⟨rfl, ⟨nd, rfl⟩⟩; refine ⟨_, rfl, ?_⟩))
 go_ret2
 exact ⟨by first | rfl | (simp; done) | (simp [*]; done), by repeat (first | exact Drawn0.refl _ | apply Drawn0.step)⟩
def ee (k : Nat) (l0 : List Int) (l1 : List Int) : Option (Bool) := (fx k l0 l1).bind fun bt280 => ((dN bt280.1).bind fun t282 => (if t282 = 1 then ((dN bt280.2).bind fun t283 => (some (t283 == 1))) else (some false)))
theorem qo (k : Nat) (A0 : Option Addr) (c0 : Nat) (l0 : List Int) (A1 : Option Addr) (c1 : Nat) (l1 : List Int) (r : Bool) (w : World) (hr0 : Kd.C (Kd.int .i64) w A0 l0.length l0) (hc0 : l0.length ≤ c0) (hr1 : Kd.C (Kd.int .i64) w A1 l1.length l1) (hc1 : l1.length ≤ c1) (h : ee k l0 l1 = some r) :
 Calls Tryz.prog 63 #[.slice A0 l0.length c0, .slice A1 l1.length c1] w fun e w' => e = .returned (.bool r) ∧ Below w.heap.size w w' := by
 have HR0 := Aside0.mk hr0
 have HC0 := Aside0.mk hc0
 clear hr0 hc0
 have HR1 := Aside0.mk hr1
 have HC1 := Aside0.mk hc1
 clear hr1 hc1
 have HB := zM (Below.refl w.heap.size w)
 have H := h
 unfold ee at H
 clear h
 replace H := ay H
 obtain ⟨⟨t280, t281⟩, A30, H⟩ := H
 try dsimp only at H
 have A3 := Aside0.mk A30
 clear A30
 replace H := ay H
 obtain ⟨t282, A40, H⟩ := H
 have A4 := Aside0.mk A40
 clear A40
 by_cases c5 : t282 = 1
 · rw [if_pos c5] at H
   have c5b0 : (t282 == 1) = true := beq_iff_eq.mpr c5
   have c5b1 : (t282 != 1) = false := bne_eq_false_iff_eq.mpr c5
   clear c5
   replace H := ay H
   obtain ⟨t283, A60, H⟩ := H
   have A6 := Aside0.mk A60
   clear A60
   obtain rfl := ao H
   go_enter Tryz.func63, Tryz.ntmps63
   go_wp2_with (first | ((with_reducible refine ax (f := 88) rfl ?_); refine zc 10 Tryz.func88 #[.slice A0 l0.length c0, .slice A1 l1.length c1] ?_; (with_reducible refine (jt k _ _ l0 _ _ l1 t280 t281 _ ?side1 ?side2 ?side3 ?side4 A3.out).mono ?_); (case side1 => exact zC HR0.out); (case side2 => exact HC0.out); (case side3 => exact zC HR1.out); (case side4 => exact HC1.out); rintro e w' ⟨rfl, ⟨nd, rfl⟩⟩; refine ⟨_, rfl, ?_⟩) | ((with_reducible refine ax (f := 89) rfl ?_); refine zc 14 Tryz.func89 #[.int .u64 t280] ?_; (with_reducible refine (fB t280 t282 _ A4.out).mono ?_); rintro e w7 ⟨rfl, hb⟩; refine ⟨_, rfl, ?_⟩; replace HB := zM (ah zB hb); (try clear hb); (try clear hi)) | (go_at_call 89; (with_reducible refine (fB t281 t283 _ A6.out).mono ?_); rintro e w8 ⟨rfl, hb⟩; replace HB := zM (ah zB hb); (try clear hb); (try clear hi)))
   go_ret
   exact ⟨by first | rfl | (simp [al, ak] <;> rfl) | (simp [*, al, ak] <;> rfl), zB⟩
 · rw [if_neg c5] at H
   have c5b0 : (t282 == 1) = false := beq_eq_false_iff_ne.mpr c5
   have c5b1 : (t282 != 1) = true := bne_iff_ne.mpr c5
   obtain rfl := ao H
   go_enter Tryz.func63, Tryz.ntmps63
   go_wp2_with (first | ((with_reducible refine ax (f := 88) rfl ?_); refine zc 10 Tryz.func88 #[.slice A0 l0.length c0, .slice A1 l1.length c1] ?_; (with_reducible refine (jt k _ _ l0 _ _ l1 t280 t281 _ ?side1 ?side2 ?side3 ?side4 A3.out).mono ?_); (case side1 => exact zC HR0.out); (case side2 => exact HC0.out); (case side3 => exact zC HR1.out); (case side4 => exact HC1.out); rintro e w' ⟨rfl, ⟨nd, rfl⟩⟩; refine ⟨_, rfl, ?_⟩) | ((with_reducible refine ax (f := 89) rfl ?_); refine zc 14 Tryz.func89 #[.int .u64 t280] ?_; (with_reducible refine (fB t280 t282 _ A4.out).mono ?_); rintro e w9 ⟨rfl, hb⟩; refine ⟨_, rfl, ?_⟩; replace HB := zM (ah zB hb); (try clear hb); (try clear hi)))
   go_ret
   exact ⟨by first | rfl | (simp [al, ak] <;> rfl) | (simp [*, al, ak] <;> rfl), zB⟩
def ju (k : Nat) (l0 : List Int) (l1 : List Int) : Option (Bool) := (fx k l0 l1).bind fun bt284 => ((dN bt284.1).bind fun t286 => ((dN bt284.2).bind fun t287 => (some ((wrap64 (t286 + t287)) == 1))))
theorem qp (k : Nat) (A0 : Option Addr) (c0 : Nat) (l0 : List Int) (A1 : Option Addr) (c1 : Nat) (l1 : List Int) (r : Bool) (w : World) (hr0 : Kd.C (Kd.int .i64) w A0 l0.length l0) (hc0 : l0.length ≤ c0) (hr1 : Kd.C (Kd.int .i64) w A1 l1.length l1) (hc1 : l1.length ≤ c1) (h : ju k l0 l1 = some r) :
 Calls Tryz.prog 79 #[.slice A0 l0.length c0, .slice A1 l1.length c1] w fun e w' => e = .returned (.bool r) ∧ Below w.heap.size w w' := by
 have HR0 := Aside0.mk hr0
 have HC0 := Aside0.mk hc0
 clear hr0 hc0
 have HR1 := Aside0.mk hr1
 have HC1 := Aside0.mk hc1
 clear hr1 hc1
 have HB := zM (Below.refl w.heap.size w)
 have H := h
 unfold ju at H
 clear h
 replace H := ay H
 obtain ⟨⟨t284, t285⟩, A30, H⟩ := H
 try dsimp only at H
 have A3 := Aside0.mk A30
 clear A30
 replace H := ay H
 obtain ⟨t286, A40, H⟩ := H
 have A4 := Aside0.mk A40
 clear A40
 replace H := ay H
 obtain ⟨t287, A50, H⟩ := H
 have A5 := Aside0.mk A50
 clear A50
 obtain rfl := ao H
 go_enter Tryz.func79, Tryz.ntmps79
 go_wp2_with (first | ((with_reducible refine ax (f := 88) rfl ?_); refine zc 10 Tryz.func88 #[.slice A0 l0.length c0, .slice A1 l1.length c1] ?_; (with_reducible refine (jt k _ _ l0 _ _ l1 t284 t285 _ ?side1 ?side2 ?side3 ?side4 A3.out).mono ?_); (case side1 => exact zC HR0.out); (case side2 => exact HC0.out); (case side3 => exact zC HR1.out); (case side4 => exact HC1.out); rintro e w' ⟨rfl, ⟨nd, rfl⟩⟩; refine ⟨_, rfl, ?_⟩) | ((with_reducible refine ax (f := 89) rfl ?_); refine zc 14 Tryz.func89 #[.int .u64 t284] ?_; (with_reducible refine (fB t284 t286 _ A4.out).mono ?_); rintro e w6 ⟨rfl, hb⟩; refine ⟨_, rfl, ?_⟩; replace HB := zM (ah zB hb); (try clear hb); (try clear hi)) | ((with_reducible refine ax (f := 89) rfl ?_); refine zc 16 Tryz.func89 #[.int .u64 t285] ?_; (with_reducible refine (fB t285 t287 _ A5.out).mono ?_); rintro e w7 ⟨rfl, hb⟩; refine ⟨_, rfl, ?_⟩; replace HB := zM (ah zB hb); (try clear hb); (try clear hi)))
 go_ret
 exact ⟨by first | rfl | (simp [al, ak] <;> rfl) | (simp [*, al, ak] <;> rfl), zB⟩
theorem lw (l : List S69) : ∀ (k : Int), 0 ≤ k → k + 2 * (l.length : Int) ≤ 4611686018427387904 → (cp l k).1 = k + 2 * (l.length : Int) := by
 induction l with
 | nil => intro k h1 h2; simp [cp]
 | cons e t ih =>
  intro k h1 h2
  simp only [List.length_cons] at h2 ⊢
  simp only [cp]
  have e1 : wrap64 (k + 1) = k + 1 := b4 (by omega) (by omega)
  have e2 : wrap64 (k + 1 + 1) = k + 1 + 1 := b4 (by omega) (by omega)
  rw [e1, e2, ih (k + 1 + 1) (by omega) (by omega)]
  omega
theorem pr (a : Int) (l : List S69) (k : Int) : gq a l k = some ((cp l k).1, (cp l k).2) := rfl
theorem pu (l : List S69) (hl : l.length ≤ 1048576) : ¬ (cp l 1).1 < 0 := by rw [lw l 1 (by omega) (by omega)]; omega
theorem gE (n : Int) (l : List S69) : ∀ p, bL n p l = true → ∀ e ∈ l, 0 ≤ e.f0 ∧ e.f0 < e.f1 ∧ e.f1 < n := by
 induction l with
 | nil => intro p h e he; simp at he
 | cons x t ih =>
  intro p h e he
  simp only [bL, Bool.and_eq_true, decide_eq_true_eq] at h
  obtain ⟨⟨⟨h1, h2⟩, h3⟩, h4, h5⟩ := h
  rcases List.mem_cons.1 he with rfl | he
  · exact ⟨h1, h2, h3⟩
  · exact ih _ h5 e he
theorem d5 {a : Int} {l : List S69} (h : bP a l = true) : 0 ≤ a ∧ a ≤ 8 ∧ ∀ e ∈ l, 0 ≤ e.f0 ∧ e.f0 < e.f1 ∧ e.f1 < a := by
 simp only [bP, Bool.and_eq_true, decide_eq_true_eq] at h
 exact ⟨h.1.1, h.1.2, gE a l none h.2⟩
def cF (l : List S69) (x y : Int) : Bool := l.any fun e => (decide (e.f0 = x) && decide (e.f1 = y)) || (decide (e.f0 = y) && decide (e.f1 = x))
theorem pb (a : Int) (l : List S69) (x y : Int) (hl : l.length ≤ 1048576) (d : Nat) : ∀ (m : Nat), l.length - m = d → m ≤ l.length →
  Ev (fun k => cY k x y (m : Int) a l) (cF (l.drop m) x y) := by
 induction d with
 | zero =>
  intro m h0 h1
  refine Ev.step (fun k => by rw [cY]) ?_
  rw [List.drop_eq_nil_of_le (by omega)]
  exact Ev.neg (by omega) (Ev.now _)
 | succ d ih =>
  intro m h0 h1
  have hm : m < l.length := by omega
  refine Ev.step (fun k => by rw [cY]) ?_
  refine Ev.pos (by omega) (Ev.pos (by omega) ?_)
  have ihm := ih (m + 1) (by omega) (by omega)
  rw [← aM hm (by omega)] at ihm
  rw [dK l m hm, List.drop_eq_getElem_cons hm]
  simp only [cF, List.any_cons] at ihm ⊢
  generalize (l.drop (m + 1)).any _ = R at ihm ⊢
  by_cases c1 : l[m].f0 = x
  · refine Ev.pos c1 ?_
    by_cases c2 : l[m].f1 = y
    · refine Ev.pos c2 ?_
      rw [ag c1, ag c2]
      exact Ev.now _
    · refine Ev.neg c2 ?_
      rw [ar c2, Bool.and_false, Bool.false_or]
      by_cases c3 : l[m].f0 = y
      · refine Ev.pos c3 ?_
        by_cases c4 : l[m].f1 = x
        · refine Ev.pos c4 ?_
          rw [ag c3, ag c4]
          exact Ev.now _
        · refine Ev.neg c4 ?_
          rw [ar c4, Bool.and_false, Bool.false_or]
          exact ihm
      · refine Ev.neg c3 ?_
        rw [ar c3, Bool.false_and, Bool.false_or]
        exact ihm
  · refine Ev.neg c1 ?_
    rw [ar c1, Bool.false_and, Bool.false_or]
    by_cases c3 : l[m].f0 = y
    · refine Ev.pos c3 ?_
      by_cases c4 : l[m].f1 = x
      · refine Ev.pos c4 ?_
        rw [ag c3, ag c4]
        exact Ev.now _
      · refine Ev.neg c4 ?_
        rw [ar c4, Bool.and_false, Bool.false_or]
        exact ihm
    · refine Ev.neg c3 ?_
      rw [ar c3, Bool.false_and, Bool.false_or]
      exact ihm
theorem lr (a : Int) (l : List S69) (x y : Int) (hl : l.length ≤ 1048576) : Ev (fun k => fZ k a l x y) (cF l x y) :=
 pb a l x y hl l.length 0 (by omega) (Nat.zero_le _)
theorem my {α : Type} (l : List α) (f g : α → Bool) (h : ∀ e ∈ l, f e = g e) : l.any f = l.any g := by
 induction l with
 | nil => rfl
 | cons x t ih => rw [List.any_cons, List.any_cons, h x (List.mem_cons_self ..), ih fun e he => h e (List.mem_cons_of_mem _ he)]
def bA (lo hi : Int) : Option Int → List Int → Bool
 | _, [] => true
 | p, x :: t => (decide (lo ≤ x) && decide (x ≤ hi)) && ((match p with | none => true | some q => decide (q < x)) && bA lo hi (some x) t)
def b8 (l : List Int) : Nat → Option Int
 | 0 => none
 | m + 1 => l[m]?
theorem kO (l : List Int) (lo hi : Int) (m : Nat) (hm : m < l.length) : bA lo hi (b8 l m) (l.drop m) = ((decide (lo ≤ l[m]) && decide (l[m] ≤ hi)) && ((match b8 l m with | none => true | some q => decide (q < l[m])) && bA lo hi (b8 l (m + 1)) (l.drop (m + 1)))) := by
 rw [List.drop_eq_getElem_cons hm, show b8 l (m + 1) = some l[m] from List.getElem?_eq_getElem hm]
 cases b8 l m <;> rfl
theorem pX (l : List Int) (lo hi : Int) (hl : l.length ≤ 1048576) (d : Nat) : ∀ (m : Nat), l.length - m = d → m ≤ l.length →
  Ev (fun k => dn k l lo hi (m : Int)) (bA lo hi (b8 l m) (l.drop m)) := by
 induction d with
 | zero =>
  intro m h0 h1
  refine Ev.step (fun k => by rw [dn]) ?_
  rw [List.drop_eq_nil_of_le (by omega)]
  refine Ev.neg (by omega) ?_
  cases b8 l m <;> exact Ev.now _
 | succ d ih =>
  intro m h0 h1
  have hm : m < l.length := by omega
  refine Ev.step (fun k => by rw [dn]) ?_
  rw [kO l lo hi m hm]
  refine Ev.pos (by omega) (Ev.pos (by omega) ?_)
  rw [bk l m hm]
  have ihm := ih (m + 1) (by omega) (by omega)
  rw [← aM hm (by omega)] at ihm
  generalize bA lo hi (b8 l (m + 1)) (l.drop (m + 1)) = R at ihm ⊢
  refine Ev.bindo (gz _ _ _) ?_
  cases hc : (decide (lo ≤ l[m]) && decide (l[m] ≤ hi)) with
  | false => rw [Bool.false_and]; exact Ev.neg (by decide) (Ev.now _)
  | true =>
   rw [Bool.true_and]
   refine Ev.pos rfl ?_
   cases m with
   | zero =>
    refine Ev.neg (by omega) ?_
    simp only [b8, Bool.true_and]
    exact ihm
   | succ q =>
    have hq : q < l.length := by omega
    have hw : wrap64 (((q + 1 : Nat) : Int) - 1) = (q : Int) := by unfold wrap64; omega
    refine Ev.pos (by omega) ?_
    rw [hw]
    refine Ev.pos (by omega) (Ev.pos (by omega) ?_)
    rw [bk l q hq]
    simp only [b8, List.getElem?_eq_getElem hq]
    by_cases c : l[q] ≥ l[q + 1]
    · rw [ar (by omega : ¬ l[q] < l[q + 1]), Bool.false_and]
      exact Ev.pos c (Ev.now _)
    · rw [ag (by omega : l[q] < l[q + 1]), Bool.true_and]
      exact Ev.neg c ihm
theorem qd (l : List Int) (n : Int) (hl : l.length ≤ 1048576) (d : Nat) : ∀ (m : Nat), l.length - m = d → m ≤ l.length →
  Ev (fun k => dx k l n l (l.length : Int) (m : Int)) (bA 0 (wrap64 (n - 1)) (b8 l m) (l.drop m)) := by
 induction d with
 | zero =>
  intro m h0 h1
  refine Ev.step (fun k => by rw [dx]) ?_
  rw [List.drop_eq_nil_of_le (by omega)]
  refine Ev.neg (by omega) ?_
  cases b8 l m <;> exact Ev.now _
 | succ d ih =>
  intro m h0 h1
  have hm : m < l.length := by omega
  refine Ev.step (fun k => by rw [dx]) ?_
  rw [kO l 0 (wrap64 (n - 1)) m hm]
  refine Ev.pos (by omega) (Ev.pos (by omega) (Ev.pos (by omega) ?_))
  rw [bk l m hm]
  have ihm := ih (m + 1) (by omega) (by omega)
  rw [← aM hm (by omega)] at ihm
  generalize bA 0 (wrap64 (n - 1)) (b8 l (m + 1)) (l.drop (m + 1)) = R at ihm ⊢
  refine Ev.bindo (iy _ _ _) ?_
  cases hc : (decide (0 ≤ l[m]) && decide (l[m] ≤ wrap64 (n - 1))) with
  | false => rw [Bool.false_and]; exact Ev.neg (by decide) (Ev.now _)
  | true =>
   rw [Bool.true_and]
   refine Ev.pos rfl ?_
   cases m with
   | zero =>
    refine Ev.neg (by omega) ?_
    simp only [b8, Bool.true_and]
    exact ihm
   | succ q =>
    have hq : q < l.length := by omega
    have hw : wrap64 (((q + 1 : Nat) : Int) - 1) = (q : Int) := by unfold wrap64; omega
    refine Ev.pos (by omega) ?_
    rw [hw]
    refine Ev.pos (by omega) (Ev.pos (by omega) ?_)
    rw [bk l q hq]
    simp only [b8, List.getElem?_eq_getElem hq]
    by_cases c : l[q + 1] ≤ l[q]
    · rw [ar (by omega : ¬ l[q] < l[q + 1]), Bool.false_and]
      exact Ev.pos c (Ev.now _)
    · rw [ag (by omega : l[q] < l[q + 1]), Bool.true_and]
      exact Ev.neg c ihm
theorem oG (l : List Int) (n : Int) (hl : l.length ≤ 1048576) : Ev (fun k => ik k l n) (bA 0 (wrap64 (n - 1)) none l) :=
 qd l n hl l.length 0 (by omega) (Nat.zero_le _)
theorem pY (l : List Int) (lo hi : Int) (hl : l.length ≤ 1048576) : Ev (fun k => g7 k l lo hi) (bA lo hi none l) :=
 pX l lo hi hl l.length 0 (by omega) (Nat.zero_le _)
theorem pT (a : Int) (e : List S69) (l : List Int) (hl : l.length ≤ 1048576) : Ev (fun k => fY k a e l) (bA 0 (wrap64 (a - 1)) none l) := by
 unfold fY
 exact Ev.bind (pY l _ _ hl) (Ev.now _)
theorem ja (lo hi : Int) (l : List Int) : ∀ p, bA lo hi p l = true → ∀ x ∈ l, lo ≤ x ∧ x ≤ hi := by
 induction l with
 | nil => intro p h x hx; simp at hx
 | cons y t ih =>
  intro p h x hx
  simp only [bA, Bool.and_eq_true, decide_eq_true_eq] at h
  rcases List.mem_cons.1 hx with rfl | hx
  · exact h.1
  · exact ih _ h.2.2 x hx
theorem kP (lo hi : Int) (l : List Int) : ∀ p, bA lo hi p l = true → l.Pairwise (· < ·) ∧ ∀ q, p = some q → ∀ x ∈ l, q < x := by
 induction l with
 | nil => intro p _; exact ⟨.nil, fun _ _ x hx => by cases hx⟩
 | cons y t ih =>
  intro p h
  simp only [bA, Bool.and_eq_true, decide_eq_true_eq] at h
  obtain ⟨_, h2, h3⟩ := h
  obtain ⟨i1, i2⟩ := ih _ h3
  refine ⟨List.pairwise_cons.2 ⟨fun x hx => i2 y rfl x hx, i1⟩, fun q hq x hx => ?_⟩
  subst hq
  have h4 : q < y := by simpa using h2
  rcases List.mem_cons.1 hx with rfl | hx
  · exact h4
  · have := i2 y rfl x hx; omega
theorem oH (lo hi : Int) (l : List Int) : ∀ p, l.Pairwise (· < ·) → (∀ x ∈ l, lo ≤ x ∧ x ≤ hi) → (∀ q, p = some q → ∀ x ∈ l, q < x) → bA lo hi p l = true := by
 induction l with
 | nil => intro p _ _ _; cases p <;> rfl
 | cons y t ih =>
  intro p hp hb hq
  obtain ⟨h1, h2⟩ := List.pairwise_cons.1 hp
  have hy := hb y (.head _)
  have ih' := ih (some y) h2 (fun x hx => hb x (.tail _ hx)) (fun q e x hx => by injection e with e; subst e; exact h1 x hx)
  cases p with
  | none => simp only [bA, Bool.and_eq_true, decide_eq_true_eq, true_and]; exact ⟨hy, ih'⟩
  | some q => simp only [bA, Bool.and_eq_true, decide_eq_true_eq]; exact ⟨hy, hq q rfl y (.head _), ih'⟩
def aI (b y : Int) : Bool := Go.bits .and .u64 (cN .u64 b y) 1 == 1
def dR (b x : Int) : Int := Go.bits .or .u64 b (cO .u64 1 x)
theorem sZ : ∀ b : Fin 256, ∀ x : Fin 8, (0 ≤ dR b x ∧ dR b x < 256) ∧ ∀ y : Fin 8, aI (dR b x) y = (aI b y || decide (y = x)) := by decide +kernel
theorem qS : ∀ y : Fin 8, aI 0 y = false := by decide +kernel
theorem dC {n : Nat} {b : Int} (h : 0 ≤ b) (h2 : b < (n : Int)) : ∃ i : Fin n, b = ((i.val : Nat) : Int) := ⟨⟨b.toNat, by omega⟩, by show b = ((b.toNat : Nat) : Int); omega⟩
theorem s5 {b x : Int} (hb : 0 ≤ b ∧ b < 256) (hx : 0 ≤ x ∧ x < 8) : (0 ≤ dR b x ∧ dR b x < 256) ∧ ∀ y, 0 ≤ y → y < 8 → aI (dR b x) y = (aI b y || decide (y = x)) := by
 obtain ⟨i, rfl⟩ := dC (n := 256) hb.1 hb.2
 obtain ⟨j, rfl⟩ := dC (n := 8) hx.1 hx.2
 have h := sZ i j
 refine ⟨h.1, fun y h0 h8 => ?_⟩
 obtain ⟨q, rfl⟩ := dC (n := 8) h0 h8
 rw [h.2 q]
 congr 1
 rw [decide_eq_decide]
 omega
theorem iu {y : Int} (h0 : 0 ≤ y) (h8 : y < 8) : aI 0 y = false := by
 obtain ⟨q, rfl⟩ := dC (n := 8) h0 h8
 exact qS q
theorem ep {b y : Int} (h0 : 0 ≤ y) : cq b y = some (aI b y) := by
 unfold cq
 rw [if_pos h0]
 rfl
def bf (b : Int) (l : List Int) : Int := l.foldl dR b
theorem jQ (l : List Int) : ∀ (b : Int), 0 ≤ b ∧ b < 256 → (∀ x ∈ l, 0 ≤ x ∧ x < 8) → (0 ≤ bf b l ∧ bf b l < 256) ∧ ∀ y, 0 ≤ y → y < 8 → aI (bf b l) y = (aI b y || decide (y ∈ l)) := by
 induction l with
 | nil => intro b hb _; exact ⟨hb, fun y _ _ => by simp [bf]⟩
 | cons x t ih =>
  intro b hb hx
  have h1 := s5 hb (hx x (List.mem_cons_self ..))
  have h2 := ih (dR b x) h1.1 (fun z hz => hx z (List.mem_cons_of_mem _ hz))
  refine ⟨h2.1, fun y h0 h8 => ?_⟩
  have := h2.2 y h0 h8
  rw [show bf b (x :: t) = bf (dR b x) t from rfl, this, h1.2 y h0 h8, Bool.or_assoc]
  congr 1
  rw [Bool.eq_iff_iff]
  simp only [Bool.or_eq_true, decide_eq_true_eq, List.mem_cons]
theorem sP (l : List Int) (hl : l.length ≤ 1048576) (hx : ∀ x ∈ l, 0 ≤ x ∧ x < 8) (d : Nat) : ∀ (b : Int) (m : Nat), l.length - m = d → m ≤ l.length →
  Ev (fun k => dO k b l (l.length : Int) (m : Int)) (bf b (l.drop m)) := by
 induction d with
 | zero =>
  intro b m h0 h1
  refine Ev.step (fun k => by rw [dO]) (Ev.neg (by omega) ?_)
  rw [List.drop_eq_nil_of_le (by omega)]
  exact Ev.now _
 | succ d ih =>
  intro b m h0 h1
  have hm : m < l.length := by omega
  have := hx l[m] (List.getElem_mem hm)
  refine Ev.step (fun k => by rw [dO]) (Ev.pos (by omega) (Ev.pos (by omega) (Ev.pos (by omega) ?_)))
  rw [bk l m hm, List.drop_eq_getElem_cons hm, aM hm (by omega)]
  exact Ev.pos this.1 (ih _ (m + 1) (by omega) (by omega))
theorem jP (l : List Int) (hl : l.length ≤ 1048576) (hx : ∀ x ∈ l, 0 ≤ x ∧ x < 8) : Ev (fun k => fC k l) (bf 0 l) :=
 sP l hl hx l.length 0 0 (by omega) (Nat.zero_le _)
theorem pZ (l : List Int) (x : Int) (hl : l.length ≤ 1048576) (d : Nat) : ∀ (m : Nat), l.length - m = d → m ≤ l.length → Ev (fun k => dY k l x (m : Int)) (decide (x ∈ l.drop m)) := by
 induction d with
 | zero =>
  intro m h0 h1
  refine Ev.step (fun k => by rw [dY]) (Ev.neg (by omega) ?_)
  rw [List.drop_eq_nil_of_le (by omega), ar (by simp)]
  exact Ev.now _
 | succ d ih =>
  intro m h0 h1
  have hm : m < l.length := by omega
  refine Ev.step (fun k => by rw [dY]) (Ev.pos (by omega) (Ev.pos (by omega) ?_))
  rw [bk l m hm, List.drop_eq_getElem_cons hm, aM hm (by omega)]
  by_cases c : l[m] = x
  · rw [ag (by rw [c]; exact List.mem_cons_self ..)]
    exact Ev.pos c (Ev.now _)
  · have h := ih (m + 1) (by omega) (by omega)
    rw [show decide (x ∈ l[m] :: l.drop (m + 1)) = decide (x ∈ l.drop (m + 1)) from by
     rw [decide_eq_decide, List.mem_cons]
     exact ⟨fun h => h.resolve_left (fun h => c h.symm), .inr⟩]
    exact Ev.neg c h
theorem p7 (l : List Int) (x : Int) (hl : l.length ≤ 1048576) : Ev (fun k => f7 k l x) (decide (x ∈ l)) := by
 have := pZ l x hl l.length 0 (by omega) (Nat.zero_le _)
 unfold f7
 simpa only [List.drop_zero, Int.natCast_zero] using this
def aH (f : Int → Bool) : Nat → Int → List Int
 | 0, _ => []
 | d + 1, y => (if f y = true then [y] else []) ++ aH f d (y + 1)
theorem oq (f : Int → Bool) (d : Nat) : ∀ y, (aH f d y).length ≤ d := by
 induction d with
 | zero => intro y; simp [aH]
 | succ d ih =>
  intro y
  have := ih (y + 1)
  simp only [aH, List.length_append]
  split <;> simp only [List.length_nil, List.length_cons] <;> omega
theorem ot (f g : Int → Bool) (d : Nat) : ∀ y, (∀ z, y ≤ z → z < y + (d : Int) → f z = g z) → aH f d y = aH g d y := by
 induction d with
 | zero => intro y _; rfl
 | succ d ih =>
  intro y h
  simp only [aH]
  rw [h y (by omega) (by omega), ih (y + 1) (fun z h1 h2 => h z (by omega) (by omega))]
theorem oo (f : Int → Bool) (d : Nat) : ∀ y, (∀ z, y ≤ z → z < y + (d : Int) → f z = false) → aH f d y = [] := by
 induction d with
 | zero => intro y _; rfl
 | succ d ih =>
  intro y h
  simp only [aH]
  rw [h y (by omega) (by omega), ih (y + 1) (fun z h1 h2 => h z (by omega) (by omega))]
  rfl
theorem kJ (f : Int → Bool) (d e : Nat) : ∀ y, aH f (d + e) y = aH f d y ++ aH f e (y + (d : Int)) := by
 induction d with
 | zero => intro y; simp [aH]
 | succ d ih =>
  intro y
  rw [show d + 1 + e = (d + e) + 1 by omega]
  simp only [aH]
  rw [ih (y + 1), List.append_assoc, show y + 1 + (d : Int) = y + ((d + 1 : Nat) : Int) by omega]
theorem db (f : Int → Bool) (d : Nat) : ∀ y z, z ∈ aH f d y ↔ (y ≤ z ∧ z < y + (d : Int)) ∧ f z = true := by
 induction d with
 | zero => intro y z; simp only [aH, List.not_mem_nil, false_iff]; omega
 | succ d ih =>
  intro y z
  simp only [aH, List.mem_append, ih]
  by_cases c : f y = true
  · rw [if_pos c, List.mem_singleton]
    constructor
    · rintro (rfl | h)
      · exact ⟨by omega, c⟩
      · exact ⟨by omega, h.2⟩
    · rintro ⟨h, hf⟩
      by_cases hz : z = y
      · exact .inl hz
      · exact .inr ⟨by omega, hf⟩
  · rw [if_neg c]
    constructor
    · rintro (h | h)
      · simp at h
      · exact ⟨by omega, h.2⟩
    · rintro ⟨h, hf⟩
      by_cases hz : z = y
      · subst hz; exact absurd hf c
      · exact .inr ⟨by omega, hf⟩
def sW (n : Int) : Int := IntKind.u64.wrap ((cO .u64 1 n) - 1)
def dc (b c : Int) : Int := Go.bits .andNot .u64 b c
theorem sM (b : Int) (d : Nat) : ∀ (y : Int) (acc : List Int), (8 - y).toNat = d → 0 ≤ y → acc.length + d ≤ 1000 → Ev (fun k => cD k b acc y) (acc ++ aH (aI b) d y) := by
 induction d with
 | zero =>
  intro y acc h0 h1 h2
  refine Ev.step (fun k => by rw [cD]) (Ev.neg (by omega) ?_)
  simp only [aH, List.append_nil]
  exact Ev.now _
 | succ d ih =>
  intro y acc h0 h1 h2
  refine Ev.step (fun k => by rw [cD]) (Ev.pos (by omega) (Ev.pos (by omega) ?_))
  have hw : wrap64 (y + 1) = y + 1 := b4 (by omega) (by omega)
  rw [hw, aH]
  by_cases c : aI b y = true
  · rw [if_pos c, ← List.append_assoc]
    refine Ev.pos (by simpa only [aI, beq_iff_eq] using c) (Ev.pos (by omega) ?_)
    exact ih (y + 1) _ (by omega) (by omega) (by rw [List.length_append, List.length_singleton]; omega)
  · rw [if_neg c, List.nil_append]
    exact Ev.neg (by simpa only [aI, beq_iff_eq] using c) (ih (y + 1) acc (by omega) (by omega) (by omega))
theorem sN (b : Int) : Ev (fun k => im k b) (aH (aI b) 8 0) := by
 unfold im
 have := sM b 8 0 [] (by omega) (by omega) (by simp)
 simpa only [List.nil_append] using this
end Go.Proofs.YtadjbmcfgjmhkaaGreat.P
