import Derived.Test.YtadjbmcfgjmhkaaGreatSlideWalkG11
namespace Go.Proofs.YtadjbmcfgjmhkaaGreat.P
open Go.RowKit YtadjbmcfgjmhkaaGreatW.PrintWords YtadjbmcfgjmhkaaGreatW.PrintLast YtadjbmcfgjmhkaaGreatW.PrintMore
attribute [local go_sem] aX aT aU aM aV aN aW aQ
set_option maxRecDepth 100000
set_option maxHeartbeats 8000000
set_option linter.unusedVariables false
set_option linter.unusedSimpArgs false
def jU (a0 : Int) : Option (Int) := some (Go.bits .and .i64 (wrap64 (IntKind.u64.wrap ((IntKind.u64.wrap ((IntKind.u64.wrap ((Go.bits .and .u64 (IntKind.u64.wrap (((IntKind.u64.wrap ((Go.bits .and .u64 ((IntKind.u64.wrap ((Go.bits .and .u64 (a0 / 2) 6148914691236517205) + (Go.bits .and .u64 a0 6148914691236517205))) / 4) 3689348814741910323) + (Go.bits .and .u64 (IntKind.u64.wrap ((Go.bits .and .u64 (a0 / 2) 6148914691236517205) + (Go.bits .and .u64 a0 6148914691236517205))) 3689348814741910323))) / 16) + (IntKind.u64.wrap ((Go.bits .and .u64 ((IntKind.u64.wrap ((Go.bits .and .u64 (a0 / 2) 6148914691236517205) + (Go.bits .and .u64 a0 6148914691236517205))) / 4) 3689348814741910323) + (Go.bits .and .u64 (IntKind.u64.wrap ((Go.bits .and .u64 (a0 / 2) 6148914691236517205) + (Go.bits .and .u64 a0 6148914691236517205))) 3689348814741910323))))) 1085102592571150095) + ((Go.bits .and .u64 (IntKind.u64.wrap (((IntKind.u64.wrap ((Go.bits .and .u64 ((IntKind.u64.wrap ((Go.bits .and .u64 (a0 / 2) 6148914691236517205) + (Go.bits .and .u64 a0 6148914691236517205))) / 4) 3689348814741910323) + (Go.bits .and .u64 (IntKind.u64.wrap ((Go.bits .and .u64 (a0 / 2) 6148914691236517205) + (Go.bits .and .u64 a0 6148914691236517205))) 3689348814741910323))) / 16) + (IntKind.u64.wrap ((Go.bits .and .u64 ((IntKind.u64.wrap ((Go.bits .and .u64 (a0 / 2) 6148914691236517205) + (Go.bits .and .u64 a0 6148914691236517205))) / 4) 3689348814741910323) + (Go.bits .and .u64 (IntKind.u64.wrap ((Go.bits .and .u64 (a0 / 2) 6148914691236517205) + (Go.bits .and .u64 a0 6148914691236517205))) 3689348814741910323))))) 1085102592571150095) / 256))) + ((IntKind.u64.wrap ((Go.bits .and .u64 (IntKind.u64.wrap (((IntKind.u64.wrap ((Go.bits .and .u64 ((IntKind.u64.wrap ((Go.bits .and .u64 (a0 / 2) 6148914691236517205) + (Go.bits .and .u64 a0 6148914691236517205))) / 4) 3689348814741910323) + (Go.bits .and .u64 (IntKind.u64.wrap ((Go.bits .and .u64 (a0 / 2) 6148914691236517205) + (Go.bits .and .u64 a0 6148914691236517205))) 3689348814741910323))) / 16) + (IntKind.u64.wrap ((Go.bits .and .u64 ((IntKind.u64.wrap ((Go.bits .and .u64 (a0 / 2) 6148914691236517205) + (Go.bits .and .u64 a0 6148914691236517205))) / 4) 3689348814741910323) + (Go.bits .and .u64 (IntKind.u64.wrap ((Go.bits .and .u64 (a0 / 2) 6148914691236517205) + (Go.bits .and .u64 a0 6148914691236517205))) 3689348814741910323))))) 1085102592571150095) + ((Go.bits .and .u64 (IntKind.u64.wrap (((IntKind.u64.wrap ((Go.bits .and .u64 ((IntKind.u64.wrap ((Go.bits .and .u64 (a0 / 2) 6148914691236517205) + (Go.bits .and .u64 a0 6148914691236517205))) / 4) 3689348814741910323) + (Go.bits .and .u64 (IntKind.u64.wrap ((Go.bits .and .u64 (a0 / 2) 6148914691236517205) + (Go.bits .and .u64 a0 6148914691236517205))) 3689348814741910323))) / 16) + (IntKind.u64.wrap ((Go.bits .and .u64 ((IntKind.u64.wrap ((Go.bits .and .u64 (a0 / 2) 6148914691236517205) + (Go.bits .and .u64 a0 6148914691236517205))) / 4) 3689348814741910323) + (Go.bits .and .u64 (IntKind.u64.wrap ((Go.bits .and .u64 (a0 / 2) 6148914691236517205) + (Go.bits .and .u64 a0 6148914691236517205))) 3689348814741910323))))) 1085102592571150095) / 256))) / 65536))) + ((IntKind.u64.wrap ((IntKind.u64.wrap ((Go.bits .and .u64 (IntKind.u64.wrap (((IntKind.u64.wrap ((Go.bits .and .u64 ((IntKind.u64.wrap ((Go.bits .and .u64 (a0 / 2) 6148914691236517205) + (Go.bits .and .u64 a0 6148914691236517205))) / 4) 3689348814741910323) + (Go.bits .and .u64 (IntKind.u64.wrap ((Go.bits .and .u64 (a0 / 2) 6148914691236517205) + (Go.bits .and .u64 a0 6148914691236517205))) 3689348814741910323))) / 16) + (IntKind.u64.wrap ((Go.bits .and .u64 ((IntKind.u64.wrap ((Go.bits .and .u64 (a0 / 2) 6148914691236517205) + (Go.bits .and .u64 a0 6148914691236517205))) / 4) 3689348814741910323) + (Go.bits .and .u64 (IntKind.u64.wrap ((Go.bits .and .u64 (a0 / 2) 6148914691236517205) + (Go.bits .and .u64 a0 6148914691236517205))) 3689348814741910323))))) 1085102592571150095) + ((Go.bits .and .u64 (IntKind.u64.wrap (((IntKind.u64.wrap ((Go.bits .and .u64 ((IntKind.u64.wrap ((Go.bits .and .u64 (a0 / 2) 6148914691236517205) + (Go.bits .and .u64 a0 6148914691236517205))) / 4) 3689348814741910323) + (Go.bits .and .u64 (IntKind.u64.wrap ((Go.bits .and .u64 (a0 / 2) 6148914691236517205) + (Go.bits .and .u64 a0 6148914691236517205))) 3689348814741910323))) / 16) + (IntKind.u64.wrap ((Go.bits .and .u64 ((IntKind.u64.wrap ((Go.bits .and .u64 (a0 / 2) 6148914691236517205) + (Go.bits .and .u64 a0 6148914691236517205))) / 4) 3689348814741910323) + (Go.bits .and .u64 (IntKind.u64.wrap ((Go.bits .and .u64 (a0 / 2) 6148914691236517205) + (Go.bits .and .u64 a0 6148914691236517205))) 3689348814741910323))))) 1085102592571150095) / 256))) + ((IntKind.u64.wrap ((Go.bits .and .u64 (IntKind.u64.wrap (((IntKind.u64.wrap ((Go.bits .and .u64 ((IntKind.u64.wrap ((Go.bits .and .u64 (a0 / 2) 6148914691236517205) + (Go.bits .and .u64 a0 6148914691236517205))) / 4) 3689348814741910323) + (Go.bits .and .u64 (IntKind.u64.wrap ((Go.bits .and .u64 (a0 / 2) 6148914691236517205) + (Go.bits .and .u64 a0 6148914691236517205))) 3689348814741910323))) / 16) + (IntKind.u64.wrap ((Go.bits .and .u64 ((IntKind.u64.wrap ((Go.bits .and .u64 (a0 / 2) 6148914691236517205) + (Go.bits .and .u64 a0 6148914691236517205))) / 4) 3689348814741910323) + (Go.bits .and .u64 (IntKind.u64.wrap ((Go.bits .and .u64 (a0 / 2) 6148914691236517205) + (Go.bits .and .u64 a0 6148914691236517205))) 3689348814741910323))))) 1085102592571150095) + ((Go.bits .and .u64 (IntKind.u64.wrap (((IntKind.u64.wrap ((Go.bits .and .u64 ((IntKind.u64.wrap ((Go.bits .and .u64 (a0 / 2) 6148914691236517205) + (Go.bits .and .u64 a0 6148914691236517205))) / 4) 3689348814741910323) + (Go.bits .and .u64 (IntKind.u64.wrap ((Go.bits .and .u64 (a0 / 2) 6148914691236517205) + (Go.bits .and .u64 a0 6148914691236517205))) 3689348814741910323))) / 16) + (IntKind.u64.wrap ((Go.bits .and .u64 ((IntKind.u64.wrap ((Go.bits .and .u64 (a0 / 2) 6148914691236517205) + (Go.bits .and .u64 a0 6148914691236517205))) / 4) 3689348814741910323) + (Go.bits .and .u64 (IntKind.u64.wrap ((Go.bits .and .u64 (a0 / 2) 6148914691236517205) + (Go.bits .and .u64 a0 6148914691236517205))) 3689348814741910323))))) 1085102592571150095) / 256))) / 65536))) / 4294967296)))) 127)
theorem sW (a0 : Int) (r : Int) (w : World) (h : jU a0 = some r) :
 Calls Tryz.prog 135 #[.int .u64 a0] w fun e w' => e = .returned (.int .i64 r) ∧ Drawn0 w w' := by
 have H := h
 unfold jU at H
 clear h
 obtain rfl := ao H
 go_enter Tryz.func135, Tryz.ntmps135
 go_wp2
 go_ret
 exact ⟨by first | rfl | (simp; done) | (simp [*]; done), by repeat (first | exact Drawn0.refl _ | apply Drawn0.step)⟩
def jV (a0 : Int) : Option (Int) := (jU a0).bind fun t266 => (some t266)
theorem sX (a0 : Int) (r : Int) (w : World) (h : jV a0 = some r) :
 Calls Tryz.prog 106 #[.int .u64 a0] w fun e w' => e = .returned (.int .i64 r) ∧ Below w.heap.size w w' := by
 have HB := zM (Below.refl w.heap.size w)
 have H := h
 unfold jV at H
 clear h
 replace H := ax H
 obtain ⟨t266, A20, H⟩ := H
 have A2 := Aside0.mk A20
 clear A20
 obtain rfl := ao H
 go_enter Tryz.func106, Tryz.ntmps106
 go_wp2_with (first | ((with_reducible refine ay (f := 135) rfl ?_); refine zc 7 Tryz.func135 #[.int .u64 a0] ?_; (with_reducible refine (sW a0 t266 _ A2.out).mono ?_); rintro e w' ⟨rfl, ⟨nd, rfl⟩⟩; refine ⟨_, rfl, ?_⟩))
 go_ret
 exact ⟨by first | rfl | (simp [al, ak] <;> rfl) | (simp [*, al, ak] <;> rfl), zB⟩
def dP (a0 : Int) : Option (Int) := (jV a0).bind fun t267 => (some t267)
theorem eh (a0 : Int) (r : Int) (w : World) (h : dP a0 = some r) :
 Calls Tryz.prog 89 #[.int .u64 a0] w fun e w' => e = .returned (.int .i64 r) ∧ Below w.heap.size w w' := by
 have HB := zM (Below.refl w.heap.size w)
 have H := h
 unfold dP at H
 clear h
 replace H := ax H
 obtain ⟨t267, A20, H⟩ := H
 have A2 := Aside0.mk A20
 clear A20
 obtain rfl := ao H
 go_enter Tryz.func89, Tryz.ntmps89
 go_wp2_with (first | ((with_reducible refine ay (f := 106) rfl ?_); refine zc 4 Tryz.func106 #[.int .u64 a0] ?_; (with_reducible refine (sX a0 t267 _ A2.out).mono ?_); rintro e w3 ⟨rfl, hb⟩; refine ⟨_, rfl, ?_⟩; replace HB := zM (ah zB hb); (try clear hb); (try clear hi)))
 go_ret
 exact ⟨by first | rfl | (simp [al, ak] <;> rfl) | (simp [*, al, ak] <;> rfl), zB⟩
def iz (a0_0 : Int) (l0_1 : List (S69)) : Option (Int) := if 0 ≤ a0_0 then (some (IntKind.u64.wrap ((cP .u64 1 a0_0) - 1))) else (none)
theorem jI (a0_0 : Int) (A0_1 : Option Addr) (c0_1 : Nat) (l0_1 : List (S69)) (r : Int) (w : World) (hr0_1 : Kd.C k69 w A0_1 l0_1.length l0_1) (hc0_1 : l0_1.length ≤ c0_1) (h : iz a0_0 l0_1 = some r) :
 Calls Tryz.prog 122 #[.agg #[.int .i64 a0_0, .slice A0_1 l0_1.length c0_1]] w fun e w' => e = .returned (.int .u64 r) ∧ Below w.heap.size w w' := by
 have hu30 := Tryz.underlying30
 have HR0_1 := Aside0.mk hr0_1
 have HC0_1 := Aside0.mk hc0_1
 clear hr0_1 hc0_1
 have HB := zM (Below.refl w.heap.size w)
 have H := h
 unfold iz at H
 clear h
 by_cases c2 : 0 ≤ a0_0
 case neg => rw [if_neg c2] at H; simp at H
 rw [if_pos c2] at H
 have c2b0 := eq_true c2
 have c2b1 : decide (0 ≤ a0_0) = true := ag c2
 clear c2
 obtain ⟨ji3, hji3⟩ : ∃ j_ : Int, (cP .u64 1 a0_0) = j_ := ⟨_, rfl⟩
 replace H : (some (IntKind.u64.wrap ((ji3) - 1))) = some r := by first | (rw [hji3] at H; exact H) | (simp only [hji3] at H ⊢; exact H)
 have hji3_ : (IntKind.u64.wrap (1 * 2 ^ min a0_0.toNat 64)) = ji3 := hji3
 have hji3z : a0_0 ≤ 64 → (IntKind.u64.wrap (1 * 2 ^ a0_0.toNat)) = ji3 := ja hji3
 have hji3u : (IntKind.u64.wrap (2 ^ min a0_0.toNat 64)) = ji3 := by have h_ := hji3_; rw [Int.one_mul] at h_; exact h_
 have hji3v : a0_0 ≤ 64 → (IntKind.u64.wrap (2 ^ a0_0.toNat)) = ji3 := fun hle_ => by have h_ := hji3z hle_; rw [Int.one_mul] at h_; exact h_
 obtain rfl := ao H
 go_enter Tryz.func122, Tryz.ntmps122
 go_wp2_with (first | ((with_reducible refine ap (N := 1) rfl ?_); refine zb (w := w) 1 #[.int .i64 a0_0, .slice A0_1 l0_1.length c0_1] 30 zB ?_; clear HB; intro gb268 w4 HB BK268 GW268; have GE268 := GW268; have hcz5_0 := zy BK268 0; have hcz5_1 := zy BK268 1; have hfz5_0 := ae BK268.out 0; have hfz5_1 := ae BK268.out 1))
 go_ret
 exact ⟨by first | rfl | (simp [al, ak] <;> rfl) | (simp only [← hji3]; first | rfl | (simp [al, ak] <;> rfl)) | (simp [*, al, ak] <;> rfl), zB⟩
def cE : Nat → Int → List Int → Int → Option (List Int)
 | 0, _, _, _ => none
 | k + 1, x0, x3, x6 => if x6 < 8 then (if 0 ≤ x6 then (if (Go.bits .and .u64 (cO .u64 x0 x6) 1) = 1 then (if x3.length < 17592186044416 then (cE k x0 (x3 ++ [x6]) (wrap64 (x6 + 1))) else (none)) else (cE k x0 x3 (wrap64 (x6 + 1)))) else (none)) else (some x3)
def fD (k : Nat) (a0 : Int) : Option (List Int) := cE k a0 (([] : List Int)) 0
theorem jC (k : Nat) (a0 : Int) (r : List Int) (w : World) (h : fD k a0 = some r) :
 Calls Tryz.prog 76 #[.int .u64 a0] w fun e w' => ∃ v0_ : Value, e = .returned (v0_) ∧ Kd.R (Kd.int .i64) 3 w' w.heap.size (fun _ => True) v0_ r ∧ Below w.heap.size w w' := by
 have HB := zM (Below.refl w.heap.size w)
 have H := h
 unfold fD at H
 clear h
 obtain ⟨y269, hy269⟩ : ∃ y_ : List Int, y_ = (([] : List Int)) := ⟨_, rfl⟩
 replace H : (cE k a0 y269 0) = some r := by first | (rw [hy269]; with_reducible exact H) | (have H2_ := (Option.bind_some _ _).symm.trans H; rw [hy269]; with_reducible exact H2_) | (have H2_ := (Option.bind_some _ _).symm.trans H; with_reducible exact H2_) | with_reducible exact H | (rw [hy269]; exact H) | exact H
 have Ny269 := Aside0.mk hy269
 clear hy269
 have H' := Aside0.mk H
 clear H
 go_enter Tryz.func76, Tryz.ntmps76
 go_wp2_with (first | ((with_reducible refine ap (N := 5) rfl ?_); refine Kd.R_lit (Kd.int .i64) _ 3 ?hg (N := 5) ?hd (xs := ([] : List Int)) (inner := []) (ok := fun _ => True) (okp := fun _ => True) ?hr ?hp (fun _ hk => hk) trivial (Below.refl _ _) (au _) (by simp) ?_; (case hd => rfl); (case hg => rfl); (case hr => first | (go_simp; done) | (go_simp; rfl)); (case hp => exact (Reps.none _ _)); intro v270 w2 ho3 hb hg_ hnew_; clear hg_ hnew_; (first | rw [← Ny269.out] at ho3 | (simp only [Int.reduceToNat] at ho3; rw [← Ny269.out] at ho3)); have HO271 := zM (Kd.R_lower ho3 (ai zB)); replace HB := zM (ah zB hb); clear hb ho3))
 go_loopg [3, 6] k (fun kq v3 v6 w' => ∃ (x3_1 : List Int) (x6_1 : Int), v6 = .int .i64 x6_1 ∧ Aside0 (cE kq a0 x3_1 x6_1 = some r) ∧ Aside0 (kq ≤ k) ∧ Aside0 (Kd.R (Kd.int .i64) 3 w' w.heap.size (fun _ => True) v3 x3_1) ∧ Aside0 (Below w.heap.size w w'))
 case atStart => exact ⟨(y269), (0), (by first | rfl | (simp; done) | (simp [*]; done)), H', ⟨au _⟩, ⟨zR HO271.out⟩, ⟨zB⟩⟩
 case round =>
  clear H'
  try clear p2
  obtain ⟨x3_1, x6_1, rfl, HA, HK1, HO_3, HB⟩ := hrel
  cases gk with
  | zero => exact absurd HA.out (by simp [cE])
  | succ k1 =>
   have H := HA.out
   clear HA
   simp only [cE] at H
   by_cases c4 : x6_1 < 8
   · rw [if_pos c4] at H
     have c4b0 := ag c4
     clear c4
     by_cases c5 : 0 ≤ x6_1
     case neg => rw [if_neg c5] at H; simp at H
     rw [if_pos c5] at H
     have c5b0 := eq_true c5
     have c5b1 : decide (0 ≤ x6_1) = true := ag c5
     clear c5
     obtain ⟨ji6, hji6⟩ : ∃ j_ : Int, (cO .u64 a0 x6_1) = j_ := ⟨_, rfl⟩
     replace H : (if (Go.bits .and .u64 (ji6) 1) = 1 then (if x3_1.length < 17592186044416 then (cE k1 a0 (x3_1 ++ [x6_1]) (wrap64 (x6_1 + 1))) else (none)) else (cE k1 a0 x3_1 (wrap64 (x6_1 + 1)))) = some r := by first | (rw [hji6] at H; exact H) | (simp only [hji6] at H ⊢; exact H)
     have hji6_ : (a0 / 2 ^ min x6_1.toNat 64) = ji6 := hji6
     have hji6z : x6_1 ≤ 64 → (a0 / 2 ^ x6_1.toNat) = ji6 := i9 hji6
     by_cases c7 : (Go.bits .and .u64 (ji6) 1) = 1
     · rw [if_pos c7] at H
       have c7b0 : ((Go.bits .and .u64 (ji6) 1) == 1) = true := beq_iff_eq.mpr c7
       have c7b1 : ((Go.bits .and .u64 (ji6) 1) != 1) = false := bne_eq_false_iff_eq.mpr c7
       clear c7
       by_cases c8 : x3_1.length < 17592186044416
       case neg => rw [if_neg c8] at H; simp at H
       rw [if_pos c8] at H
       have LMc8 := Aside0.mk c8
       clear c8
       obtain ⟨y272, hy272⟩ : ∃ y_ : List Int, y_ = (x3_1 ++ [x6_1]) := ⟨_, rfl⟩
       replace H : (cE k1 a0 y272 (wrap64 (x6_1 + 1))) = some r := by first | (rw [hy272]; with_reducible exact H) | (have H2_ := (Option.bind_some _ _).symm.trans H; rw [hy272]; with_reducible exact H2_) | (have H2_ := (Option.bind_some _ _).symm.trans H; with_reducible exact H2_) | with_reducible exact H | (rw [hy272]; exact H) | exact H
       have Ny272 := Aside0.mk hy272
       clear hy272
       have H' := Aside0.mk H
       clear H
       go_wp2_with (first | ((with_reducible refine br (b := .append) (xs := #[.tmp 14, .tmp 16]) rfl ?_); at_builtin; refine Kd.R_append (Kd.int .i64) (w0 := w) w.heap.size rfl (.tmp 14) (.tmp 16) 25 3 (.int .i64 0) 8 rfl Tryz.underlying25 bq rfl (by decide) (by omega) u3 x3_1 x6_1 [.int .i64 x6_1] (fun _ => True) (fun _ => False) rfl rfl ?aP (fun _ hk => hk.elim) ?aF ?aO ?aB ?aS ?aL ?_; (case aP => exact rfl); (case aB => exact zB); (case aF => exact (fun _ _ => trivial)); (case aO => exact (zR HO_3.out)); (case aS => exact (ai zB)); (case aL => have := LMc8.out; omega); intro v273 w9 ho hb hg hat; rw [← Ny272.out] at ho; replace HB := zM (hb); have HO274 := zM (ho); clear HO_3; clear ho hb hg hat))
       go_roundg k1
       case measure => have := HK1.out; omega
       case rel => exact ⟨(y272), (wrap64 (x6_1 + 1)), (by first | rfl | (simp; done) | (simp [*]; done)), H', ⟨by have := HK1.out; omega⟩, ⟨zR HO274.out⟩, ⟨zB⟩⟩
     · rw [if_neg c7] at H
       have c7b0 : ((Go.bits .and .u64 (ji6) 1) == 1) = false := beq_eq_false_iff_ne.mpr c7
       have c7b1 : ((Go.bits .and .u64 (ji6) 1) != 1) = true := bne_iff_ne.mpr c7
       have H' := Aside0.mk H
       clear H
       go_wp2
       go_roundg k1
       case measure => have := HK1.out; omega
       case rel => exact ⟨(x3_1), (wrap64 (x6_1 + 1)), (by first | rfl | (simp; done) | (simp [*]; done)), H', ⟨by have := HK1.out; omega⟩, ⟨zR HO_3.out⟩, ⟨zB⟩⟩
   · rw [if_neg c4] at H
     have c4b0 : decide (x6_1 < 8) = false := ar c4
     clear c4
     obtain rfl := ao H
     go_wp2
     go_ret
     exact ⟨_, by first | rfl | (simp [al, ak] <;> rfl) | (simp [*, al, ak] <;> rfl), by (with_reducible repeat (first | apply Kd.R_alloc | apply Kd.R_drewN | apply Kd.R_drew)); exact HO_3.out, zB⟩
attribute [local go_sem] aX aT aU aM aV aN aW aQ
set_option linter.unusedVariables false
set_option linter.unusedSimpArgs false
theorem mm {d : Nat} {e c : Nat} {xs ys : Array Value} {i : Nat} {is : List Nat} {a b : Value} {r s : Bool} {w : World} (ha : (part e xs (i * c)).run Tryz.prog w = .ok a w) (hb : (part e ys (i * c)).run Tryz.prog w = .ok b w) (he : (Op.equalIn d e a b).run Tryz.prog w = .ok r w) (hr : (Op.eqItems d e c xs ys is).run Tryz.prog w = .ok s w) : (Op.eqItems d e c xs ys (i :: is)).run Tryz.prog w = .ok (r && s) w := by
 rw [Op.eqItems]
 simp only [Sem.run_bind, ha, hb, he, Result.andThen_ok]
 cases r
 · simp
 · simpa using hr
theorem sj {d : Nat} {e c : Nat} {xs ys : Array Value} {i : Nat} {a b : Value} {r : Bool} {w : World} (ha : (part e xs (i * c)).run Tryz.prog w = .ok a w) (hb : (part e ys (i * c)).run Tryz.prog w = .ok b w) (he : (Op.equalIn d e a b).run Tryz.prog w = .ok r w) : (Op.eqItems d e c xs ys [i]).run Tryz.prog w = .ok r w := by
 have h := mm (is := []) (s := true) ha hb he (by simp [Op.eqItems])
 rwa [Bool.and_true] at h
theorem ss (d : Nat) (w : World) (x0 x1 y0 y1 : Int) :
 (Op.equalIn (d + 2) 69 (.agg #[.int .i64 x0, .int .i64 x1]) (.agg #[.int .i64 y0, .int .i64 y1])).run Tryz.prog w = .ok (x0 == y0 && (x1 == y1)) w := by
 obtain ⟨i_, hi_⟩ := Option.isSome_iff_exists.1 (by kernel_rfl : (Tryz.prog.info? 3).isSome = true)
 rw [show d + 2 = (d + 1) + 1 from rfl, run_equalIn_array w (d + 1) _ _ Tryz.underlying69 hi_, show Tryz.prog.cellsOf 3 = 1 from by kernel_rfl, show List.range 2 = [0, 1] from rfl]
 refine mm (by go_simp; rfl) (by go_simp; rfl) (by go_simp) ?_
 exact sj (by go_simp; rfl) (by go_simp; rfl) (by go_simp)
attribute [local go_sem] aX aT aU aM aV aN aW aQ
set_option linter.unusedVariables false
set_option linter.unusedSimpArgs false
attribute [local go_sem high] ss
def fz (k : Nat) (l0 : List Int) (l1 : List Int) : Option (Int × Int) := (fE k l0).bind fun t278 => ((fE k l1).bind fun t279 => (some (Go.bits .andNot .u64 t278 t279, Go.bits .andNot .u64 t279 t278)))
theorem iu (k : Nat) (A0 : Option Addr) (c0 : Nat) (l0 : List Int) (A1 : Option Addr) (c1 : Nat) (l1 : List Int) (r1 : Int) (r2 : Int) (w : World) (hr0 : Kd.C (Kd.int .i64) w A0 l0.length l0) (hc0 : l0.length ≤ c0) (hr1 : Kd.C (Kd.int .i64) w A1 l1.length l1) (hc1 : l1.length ≤ c1) (h : fz k l0 l1 = some (r1, r2)) :
 Calls Tryz.prog 88 #[.slice A0 l0.length c0, .slice A1 l1.length c1] w fun e w' => e = .returned (.tuple #[.int .u64 r1, .int .u64 r2]) ∧ Drawn0 w w' := by
 have HR0 := Aside0.mk hr0
 have HC0 := Aside0.mk hc0
 clear hr0 hc0
 have HR1 := Aside0.mk hr1
 have HC1 := Aside0.mk hc1
 clear hr1 hc1
 have H := h
 unfold fz at H
 clear h
 replace H := ax H
 obtain ⟨t278, A30, H⟩ := H
 try dsimp only at H
 have A3 := Aside0.mk A30
 clear A30
 replace H := ax H
 obtain ⟨t279, A40, H⟩ := H
 try dsimp only at H
 have A4 := Aside0.mk A40
 clear A40
 simp only [Option.some.injEq, Prod.mk.injEq] at H
 obtain ⟨rfl, rfl⟩ := H
 go_enter Tryz.func88, Tryz.ntmps88
 go_wp2_with (first | ((with_reducible refine ay (f := 74) rfl ?_); refine zc 9 Tryz.func74 #[.slice A0 l0.length c0] ?_; (with_reducible refine (jD k _ _ l0 t278 _ ?side1 ?side2 A3.out).mono ?_); (case side1 => exact zC HR0.out); (case side2 => exact HC0.out); rintro e w' ⟨rfl, ⟨nd, rfl⟩⟩; refine ⟨_, rfl, ?_⟩) | ((with_reducible refine ay (f := 74) rfl ?_); refine zc 11 Tryz.func74 #[.slice A1 l1.length c1] ?_; (with_reducible refine (jD k _ _ l1 t279 _ ?side1 ?side2 A4.out).mono ?_); (case side1 => exact zC HR1.out); (case side2 => exact HC1.out); rintro e w' ⟨rfl, ⟨nd, rfl⟩⟩; refine ⟨_, rfl, ?_⟩))
 go_ret2
 exact ⟨by first | rfl | (simp; done) | (simp [*]; done), by repeat (first | exact Drawn0.refl _ | apply Drawn0.step)⟩
def jB (k : Nat) (l0 : List Int) (l1 : List Int) : Option (Bool) := (fz k l0 l1).bind fun bt284 => ((dP bt284.1).bind fun t286 => ((dP bt284.2).bind fun t287 => (some ((wrap64 (t286 + t287)) == 1))))
theorem qE (k : Nat) (A0 : Option Addr) (c0 : Nat) (l0 : List Int) (A1 : Option Addr) (c1 : Nat) (l1 : List Int) (r : Bool) (w : World) (hr0 : Kd.C (Kd.int .i64) w A0 l0.length l0) (hc0 : l0.length ≤ c0) (hr1 : Kd.C (Kd.int .i64) w A1 l1.length l1) (hc1 : l1.length ≤ c1) (h : jB k l0 l1 = some r) :
 Calls Tryz.prog 79 #[.slice A0 l0.length c0, .slice A1 l1.length c1] w fun e w' => e = .returned (.bool r) ∧ Below w.heap.size w w' := by
 have HR0 := Aside0.mk hr0
 have HC0 := Aside0.mk hc0
 clear hr0 hc0
 have HR1 := Aside0.mk hr1
 have HC1 := Aside0.mk hc1
 clear hr1 hc1
 have HB := zM (Below.refl w.heap.size w)
 have H := h
 unfold jB at H
 clear h
 replace H := ax H
 obtain ⟨⟨t284, t285⟩, A30, H⟩ := H
 try dsimp only at H
 have A3 := Aside0.mk A30
 clear A30
 replace H := ax H
 obtain ⟨t286, A40, H⟩ := H
 have A4 := Aside0.mk A40
 clear A40
 replace H := ax H
 obtain ⟨t287, A50, H⟩ := H
 have A5 := Aside0.mk A50
 clear A50
 obtain rfl := ao H
 go_enter Tryz.func79, Tryz.ntmps79
 go_wp2_with (first | ((with_reducible refine ay (f := 88) rfl ?_); refine zc 10 Tryz.func88 #[.slice A0 l0.length c0, .slice A1 l1.length c1] ?_; (with_reducible refine (iu k _ _ l0 _ _ l1 t284 t285 _ ?side1 ?side2 ?side3 ?side4 A3.out).mono ?_); (case side1 => exact zC HR0.out); (case side2 => exact HC0.out); (case side3 => exact zC HR1.out); (case side4 => exact HC1.out); rintro e w' ⟨rfl, ⟨nd, rfl⟩⟩; refine ⟨_, rfl, ?_⟩) | ((with_reducible refine ay (f := 89) rfl ?_); refine zc 14 Tryz.func89 #[.int .u64 t284] ?_; (with_reducible refine (eh t284 t286 _ A4.out).mono ?_); rintro e w6 ⟨rfl, hb⟩; refine ⟨_, rfl, ?_⟩; replace HB := zM (ah zB hb); (try clear hb); (try clear hi)) | ((with_reducible refine ay (f := 89) rfl ?_); refine zc 16 Tryz.func89 #[.int .u64 t285] ?_; (with_reducible refine (eh t285 t287 _ A5.out).mono ?_); rintro e w7 ⟨rfl, hb⟩; refine ⟨_, rfl, ?_⟩; replace HB := zM (ah zB hb); (try clear hb); (try clear hi)))
 go_ret
 exact ⟨by first | rfl | (simp [al, ak] <;> rfl) | (simp [*, al, ak] <;> rfl), zB⟩
def dM : Nat → List (S69) → Int → Int → Int → Int → Option (Int)
 | 0, _, _, _, _, _ => none
 | k + 1, x0, x7, x8, x289000, x289001 => if x8 < x7 then (if 0 ≤ x8 then (if x8 < (x0.length : Int) then (if (x289000 == ((aa x0 x8).f0) && (x289001 == ((aa x0 x8).f1))) = true then (some x8) else (dM k x0 x7 (wrap64 (x8 + 1)) x289000 x289001)) else (none)) else (none)) else (some (-1))
def hI (k : Nat) (l0 : List (S69)) (a1_0 : Int) (a1_1 : Int) : Option (Int) := dM k l0 (l0.length : Int) 0 a1_0 a1_1
theorem ou (k : Nat) (A0 : Option Addr) (c0 : Nat) (l0 : List (S69)) (a1_0 : Int) (a1_1 : Int) (r : Int) (w : World) (hr0 : Kd.C k69 w A0 l0.length l0) (hc0 : l0.length ≤ c0) (h : hI k l0 a1_0 a1_1 = some r) :
 Calls Tryz.prog 136 #[.slice A0 l0.length c0, .agg #[.int .i64 a1_0, .int .i64 a1_1]] w fun e w' => e = .returned (.int .i64 r) ∧ Below w.heap.size w w' := by
 have hu69 := Tryz.underlying69
 have HR0 := Aside0.mk hr0
 have HC0 := Aside0.mk hc0
 clear hr0 hc0
 have HB := zM (Below.refl w.heap.size w)
 have H := h
 unfold hI at H
 clear h
 have H' := Aside0.mk H
 clear H
 go_enter Tryz.func136, Tryz.ntmps136
 go_wp2_with (first | ((with_reducible refine ap (N := 3) rfl ?_); refine zb (w := w) 3 #[.int .i64 a1_0, .int .i64 a1_1] 69 zB ?_; clear HB; intro gb288 w3 HB BK288 GW288; have GE288 := GW288))
 repeat (go_quiet (first | ((with_reducible refine ap (N := 3) rfl ?_); refine zb (w := w) 3 #[.int .i64 a1_0, .int .i64 a1_1] 69 zB ?_; clear HB; intro gb288 w3 HB BK288 GW288; have GE288 := GW288)); try go_wp2_with (first | ((with_reducible refine ap (N := 3) rfl ?_); refine zb (w := w) 3 #[.int .i64 a1_0, .int .i64 a1_1] 69 zB ?_; clear HB; intro gb288 w3 HB BK288 GW288; have GE288 := GW288)))
 go_loopg [8] k (fun kq v8 w' => ∃ (x8_1 : Int), v8 = .int .i64 x8_1 ∧ Aside0 (dM kq l0 (l0.length : Int) x8_1 a1_0 a1_1 = some r) ∧ Aside0 (kq ≤ k) ∧ Aside0 (w'.heap[gb288]? = some (.cells #[.int .i64 a1_0, .int .i64 a1_1] 69 (0, 0))) ∧ Aside0 (Below w.heap.size w w'))
 case atStart => exact ⟨(0), (by first | rfl | (simp; done) | (simp [*]; done)), H', ⟨au _⟩, ⟨zK BK288.out⟩, ⟨zB⟩⟩
 case round =>
  clear H'
  try clear c1
  try clear p2
  obtain ⟨x8_1, rfl, HA, HK1, BK288, HB⟩ := hrel
  cases gk with
  | zero => exact absurd HA.out (by simp [dM])
  | succ k1 =>
   have H := HA.out
   clear HA
   simp only [dM] at H
   by_cases c4 : x8_1 < (l0.length : Int)
   · rw [if_pos c4] at H
     have c4b0 := ag c4
     clear c4
     by_cases c5 : 0 ≤ x8_1
     case neg => rw [if_neg c5] at H; simp at H
     rw [if_pos c5] at H
     have c5b0 := ag c5
     clear c5
     by_cases c6 : x8_1 < (l0.length : Int)
     case neg => rw [if_neg c6] at H; simp at H
     rw [if_pos c6] at H
     have c6b0 := ag c6
     clear c6
     by_cases c7 : (a1_0 == ((aa l0 x8_1).f0) && (a1_1 == ((aa l0 x8_1).f1))) = true
     · rw [if_pos c7] at H
       have c7b0 : (a1_0 == ((aa l0 x8_1).f0) && (a1_1 == ((aa l0 x8_1).f1))) = true := c7
       (try (have c7b1 : decide (a1_0 = ((aa l0 x8_1).f0) && (a1_1 == ((aa l0 x8_1).f1))) = true := by simpa using c7))
       (try (have c7b2 : (a1_0 == ((aa l0 x8_1).f0) && (a1_1 == ((aa l0 x8_1).f1))) = true := by simpa using c7))
       clear c7
       obtain rfl := ao H
       have hcz8_0 := zy BK288 0
       have hcz8_1 := zy BK288 1
       have hfz8_0 := ae BK288.out 0
       have hfz8_1 := ae BK288.out 1
       have p289 : 0 ≤ (x8_1 : Int) := ac zA
       have q289 : x8_1 < (l0.length : Int) := ac zA
       obtain ⟨ad289, e289, hx289_0, hx289_1⟩ := ba HR0.out x8_1 p289 q289
       cases e289
       (try replace hx289_0 := (HB.out.cell (aj w _ hx289_0)).trans hx289_0)
       (try replace hx289_1 := (HB.out.cell (aj w _ hx289_1)).trans hx289_1)
       replace p289 := eq_true p289
       replace q289 := eq_true q289
       go_wp2
       repeat (go_quiet (fail); try go_wp2)
       go_ret
       exact ⟨by first | rfl | (simp [al, ak] <;> rfl) | (simp [*, al, ak] <;> rfl), zB⟩
     · rw [if_neg c7] at H
       have c7b0 : (a1_0 == ((aa l0 x8_1).f0) && (a1_1 == ((aa l0 x8_1).f1))) = false := by simpa using c7
       (try (have c7b1 : decide (a1_0 = ((aa l0 x8_1).f0) && (a1_1 == ((aa l0 x8_1).f1))) = false := by simpa using c7))
       (try (have c7b2 : (a1_0 == ((aa l0 x8_1).f0) && (a1_1 == ((aa l0 x8_1).f1))) = false := by simpa using c7))
       (try (have c7b3 : ¬ (a1_0 = ((aa l0 x8_1).f0) && (a1_1 == ((aa l0 x8_1).f1))) := by simpa using c7))
       clear c7
       have H' := Aside0.mk H
       clear H
       have hcz9_0 := zy BK288 0
       have hcz9_1 := zy BK288 1
       have hfz9_0 := ae BK288.out 0
       have hfz9_1 := ae BK288.out 1
       have p289 : 0 ≤ (x8_1 : Int) := ac zA
       have q289 : x8_1 < (l0.length : Int) := ac zA
       obtain ⟨ad289, e289, hx289_0, hx289_1⟩ := ba HR0.out x8_1 p289 q289
       cases e289
       (try replace hx289_0 := (HB.out.cell (aj w _ hx289_0)).trans hx289_0)
       (try replace hx289_1 := (HB.out.cell (aj w _ hx289_1)).trans hx289_1)
       replace p289 := eq_true p289
       replace q289 := eq_true q289
       go_wp2
       repeat (go_quiet (fail); try go_wp2)
       go_roundg k1
       case measure => have := HK1.out; omega
       case rel => exact ⟨(wrap64 (x8_1 + 1)), (by first | rfl | (simp; done) | (simp [*]; done)), H', ⟨by have := HK1.out; omega⟩, ⟨zK BK288.out⟩, ⟨zB⟩⟩
   · rw [if_neg c4] at H
     have c4b0 : decide (x8_1 < (l0.length : Int)) = false := ar c4
     clear c4
     obtain rfl := ao H
     go_wp2
     repeat (go_quiet (fail); try go_wp2)
     go_ret
     exact ⟨by first | rfl | (simp [al, ak] <;> rfl) | (simp [*, al, ak] <;> rfl), zB⟩
def hJ (k : Nat) (l0 : List (S69)) (a1_0 : Int) (a1_1 : Int) : Option (Bool) := (hI k l0 a1_0 a1_1).bind fun t291 => (some (decide (t291 ≥ 0)))
theorem ov (k : Nat) (A0 : Option Addr) (c0 : Nat) (l0 : List (S69)) (a1_0 : Int) (a1_1 : Int) (r : Bool) (w : World) (hr0 : Kd.C k69 w A0 l0.length l0) (hc0 : l0.length ≤ c0) (h : hJ k l0 a1_0 a1_1 = some r) :
 Calls Tryz.prog 107 #[.slice A0 l0.length c0, .agg #[.int .i64 a1_0, .int .i64 a1_1]] w fun e w' => e = .returned (.bool r) ∧ Below w.heap.size w w' := by
 have hu69 := Tryz.underlying69
 have HR0 := Aside0.mk hr0
 have HC0 := Aside0.mk hc0
 clear hr0 hc0
 have HB := zM (Below.refl w.heap.size w)
 have H := h
 unfold hJ at H
 clear h
 replace H := ax H
 obtain ⟨t291, A30, H⟩ := H
 have A3 := Aside0.mk A30
 clear A30
 obtain rfl := ao H
 go_enter Tryz.func107, Tryz.ntmps107
 go_wp2_with (first | ((with_reducible refine ap (N := 3) rfl ?_); refine zb (w := w) 3 #[.int .i64 a1_0, .int .i64 a1_1] 69 zB ?_; clear HB; intro gb290 w4 HB BK290 GW290; have GE290 := GW290; have hcz5_0 := zy BK290 0; have hcz5_1 := zy BK290 1; have hfz5_0 := ae BK290.out 0; have hfz5_1 := ae BK290.out 1) | ((with_reducible refine ay (f := 136) rfl ?_); refine zc 7 Tryz.func136 #[.slice A0 l0.length c0, .agg #[.int .i64 a1_0, .int .i64 a1_1]] ?_; (with_reducible refine (ou k _ _ l0 a1_0 a1_1 t291 _ ?side1 ?side2 A3.out).mono ?_); (case side1 => exact zC (Kd.C_below HR0.out HB.out)); (case side2 => exact HC0.out); rintro e w6 ⟨rfl, hb⟩; refine ⟨_, rfl, ?_⟩; replace BK290 := zJ BK290 hb; replace HB := zM (ah zB hb); (try clear hb); (try clear hi)))
 go_ret
 exact ⟨by first | rfl | (simp [al, ak] <;> rfl) | (simp [*, al, ak] <;> rfl), zB⟩
attribute [local go_sem] aX aT aU aM aV aN aW aQ
set_option linter.unusedVariables false
set_option linter.unusedSimpArgs false
def jA (a0 : Int) (a1 : Int) : Option (Int × Int) := some (mn a0 a1, mx a0 a1)
theorem qB (a0 : Int) (a1 : Int) (r1 : Int) (r2 : Int) (w : World) (h : jA a0 a1 = some (r1, r2)) :
 Calls Tryz.prog 108 #[.int .i64 a0, .int .i64 a1] w fun e w' => e = .returned (.agg #[.int .i64 r1, .int .i64 r2]) ∧ Below w.heap.size w w' := by
 have hu69 := Tryz.underlying69
 have HB := zM (Below.refl w.heap.size w)
 have H := h
 unfold jA at H
 clear h
 obtain ⟨ji3, hji3⟩ : ∃ j_ : Int, (mn a0 a1) = j_ := ⟨_, rfl⟩
 replace H : (some (ji3, mx a0 a1)) = some (r1, r2) := by first | (rw [hji3] at H; exact H) | (simp only [hji3] at H ⊢; exact H)
 have hji3_ : (if a1 < a0 then a1 else a0) = ji3 := hji3
 obtain ⟨ji4, hji4⟩ : ∃ j_ : Int, (mx a0 a1) = j_ := ⟨_, rfl⟩
 replace H : (some (ji3, ji4)) = some (r1, r2) := by first | (rw [hji4] at H; exact H) | (simp only [hji4] at H ⊢; exact H)
 have hji4_ : (if a0 < a1 then a1 else a0) = ji4 := hji4
 simp only [Option.some.injEq, Prod.mk.injEq] at H
 obtain ⟨rfl, rfl⟩ := H
 go_enter Tryz.func108, Tryz.ntmps108
 go_wp2_with (first | ((with_reducible refine ap (N := 4) rfl ?_); refine zb (w := w) 4 #[.int .i64 0, .int .i64 0] 69 zB ?_; clear HB; intro gb292 w5 HB BK292 GW292; have GE292 := GW292; have hcz6_0 := zy BK292 0; have hcz6_1 := zy BK292 1; have hfz6_0 := ae BK292.out 0; have hfz6_1 := ae BK292.out 1))
 refine bodyPost_ret (results_cell_row rfl _ _ gb292 69 #[.int .i64 ji3, .int .i64 ji4] (0, 0) _ rfl (by (with_reducible repeat (first | refine aw ?_ _ | refine aq ?_ | refine av ?_ _)); refine aD (cs := #[.int .i64 ji3, .int .i64 0]) ?_ 1 _ rfl; (with_reducible repeat (first | refine aw ?_ _ | refine aq ?_ | refine av ?_ _)); refine aD (cs := #[.int .i64 0, .int .i64 0]) ?_ 0 _ rfl; (with_reducible repeat (first | refine aw ?_ _ | refine aq ?_ | refine av ?_ _)); exact BK292.out) Tryz.underlying69 rfl (by kernel_rfl)) rfl ?_
 exact ⟨by first | rfl | (simp [al, ak] <;> rfl) | (simp only [← hji3, ← hji4]; first | rfl | (simp [al, ak] <;> rfl)) | (simp [*, al, ak] <;> rfl), zB⟩
end Go.Proofs.YtadjbmcfgjmhkaaGreat.P
