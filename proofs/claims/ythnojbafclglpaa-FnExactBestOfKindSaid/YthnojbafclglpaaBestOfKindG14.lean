/- Both sides' test of a strictly ascending list of nodes. -/
import Derived.Test.YthnojbafclglpaaBestOfKindG13
import Derived.Test.YthnojbafclglpaaBestOfKindG7
import Derived.Test.YthnojbafclglpaaBestOfKindG5
import Derived.Test.YthnojbafclglpaaBestOfKindG6
namespace Go.Proofs.Ythnojbafclglpaa.P
open Go.RowKit Go.Proofs.YthnojbafclglpaaW.PrintWords Go.Proofs.YthnojbafclglpaaW.PrintLast Go.Proofs.YthnojbafclglpaaW.PrintMore
set_option linter.unusedVariables false

/-- Numbers from lo to hi, strictly ascending behind a first one. -/
def risI (lo hi : Int) : Option Int → List Int → Bool
  | _, [] => true
  | p, x :: t => (decide (lo ≤ x) && decide (x ≤ hi)) && ((match p with | none => true | some q => decide (q < x)) && risI lo hi (some x) t)
theorem risI_all (lo hi : Int) (l : List Int) : ∀ p, risI lo hi p l = true → ∀ x ∈ l, lo ≤ x ∧ x ≤ hi := by
  induction l with
  | nil => intro p h x hx; simp at hx
  | cons y t ih =>
    intro p h x hx
    simp only [risI, Bool.and_eq_true, decide_eq_true_eq] at h
    rcases List.mem_cons.1 hx with rfl | hx
    · exact h.1
    · exact ih _ h.2.2 x hx
theorem risI_pw (lo hi : Int) (l : List Int) : ∀ p, risI lo hi p l = true → l.Pairwise (· < ·) ∧ ∀ q, p = some q → ∀ x ∈ l, q < x := by
  induction l with
  | nil => intro p _; exact ⟨.nil, fun _ _ x hx => by cases hx⟩
  | cons y t ih =>
    intro p h
    simp only [risI, Bool.and_eq_true, decide_eq_true_eq] at h
    obtain ⟨_, h2, h3⟩ := h
    obtain ⟨i1, i2⟩ := ih _ h3
    refine ⟨List.pairwise_cons.2 ⟨fun x hx => i2 y rfl x hx, i1⟩, fun q hq x hx => ?_⟩
    subst hq
    have h4 : q < y := by simpa using h2
    rcases List.mem_cons.1 hx with rfl | hx
    · exact h4
    · have := i2 y rfl x hx; omega
theorem risI_of (lo hi : Int) (l : List Int) : ∀ p, l.Pairwise (· < ·) → (∀ x ∈ l, lo ≤ x ∧ x ≤ hi) → (∀ q, p = some q → ∀ x ∈ l, q < x) → risI lo hi p l = true := by
  induction l with
  | nil => intro p _ _ _; cases p <;> rfl
  | cons y t ih =>
    intro p hp hb hq
    obtain ⟨h1, h2⟩ := List.pairwise_cons.1 hp
    have hy := hb y (.head _)
    have ih' := ih (some y) h2 (fun x hx => hb x (.tail _ hx)) (fun q e x hx => by injection e with e; subst e; exact h1 x hx)
    cases p with
    | none => simp only [risI, Bool.and_eq_true, decide_eq_true_eq, true_and]; exact ⟨hy, ih'⟩
    | some q => simp only [risI, Bool.and_eq_true, decide_eq_true_eq]; exact ⟨hy, hq q rfl y (.head _), ih'⟩
end Go.Proofs.Ythnojbafclglpaa.P
namespace Go.Proofs.Ythnojbafclglpaa.P
open Go.RowKit Go.Proofs.YthnojbafclglpaaW.PrintWords Go.Proofs.YthnojbafclglpaaW.PrintLast Go.Proofs.YthnojbafclglpaaW.PrintMore
attribute [local go_sem] max2_int min2_int max_two min_two max_three min_three max_four min_four   -- for this text's walks alone
set_option linter.unusedVariables false
set_option linter.unusedSimpArgs false

/-! ### impl_Graph_all: function 207 -/
def impl_Graph_all.f (a0_0 : Int) (l0_1 : List (S64)) : Option (Int) := if 0 ≤ a0_0 then (some (IntKind.u64.wrap ((shl .u64 1 a0_0) - 1))) else (none)
set_option maxHeartbeats 8000000 in
set_option maxRecDepth 100000 in
theorem impl_Graph_all.calls (a0_0 : Int) (A0_1 : Option Addr) (c0_1 : Nat) (l0_1 : List (S64)) (r : Int) (w : World) (hr0_1 : Kd.C k64 w A0_1 l0_1.length l0_1) (hc0_1 : l0_1.length ≤ c0_1) (h : impl_Graph_all.f a0_0 l0_1 = some r) :
 Calls Try.prog 207 #[.agg #[.int .i64 a0_0, .slice A0_1 l0_1.length c0_1]] w fun e w' => e = .returned (.int .u64 r) ∧ Below w.heap.size w w' := by
 have hu43 := Try.underlying43
 have HR0_1 := Aside0.mk hr0_1
 have HC0_1 := Aside0.mk hc0_1
 clear hr0_1 hc0_1
 have HB := zM (Below.refl w.heap.size w)
 have H : (if 0 ≤ a0_0 then (some (IntKind.u64.wrap ((shl .u64 1 a0_0) - 1))) else (none)) = some r := h
 clear h
 by_cases c2 : 0 ≤ a0_0
 · rw [if_pos c2] at H
   have c2b0 := eq_true c2
   have c2b1 : decide (0 ≤ a0_0) = true := decide_eq_true c2
   clear c2
   obtain ⟨ji3, hji3⟩ : ∃ j_ : Int, (shl .u64 1 a0_0) = j_ := ⟨_, rfl⟩
   replace H : (some (IntKind.u64.wrap ((ji3) - 1))) = some r := by first | (rw [hji3] at H; exact H) | (simp only [hji3] at H ⊢; exact H)
   have hji3_ : (IntKind.u64.wrap (1 * 2 ^ min a0_0.toNat 64)) = ji3 := hji3
   have hji3z : a0_0 ≤ 64 → (IntKind.u64.wrap (1 * 2 ^ a0_0.toNat)) = ji3 := shl_small hji3
   have hji3u : (IntKind.u64.wrap (2 ^ min a0_0.toNat 64)) = ji3 := by have h_ := hji3_; rw [Int.one_mul] at h_; exact h_
   have hji3v : a0_0 ≤ 64 → (IntKind.u64.wrap (2 ^ a0_0.toNat)) = ji3 := fun hle_ => by have h_ := hji3z hle_; rw [Int.one_mul] at h_; exact h_
   obtain rfl := Option.some.inj H
   go_enter Try.func207, Try.ntmps207
   go_wp2_with (first | ((with_reducible refine gate_dst (N := 1) rfl ?_); refine zb (w := w) 1 #[.int .i64 a0_0, .slice A0_1 l0_1.length c0_1] 43 zB ?_; clear HB; intro gb101 w4 HB BK101 GW101; have GE101 := GW101; have hcz5_0 := zy BK101 0; have hcz5_1 := zy BK101 1; have hfz5_0 := blk_frozen BK101.out 0; have hfz5_1 := blk_frozen BK101.out 1))
   go_ret
   exact ⟨by first | rfl | (simp [errW_none, errW_some] <;> rfl) | (simp only [← hji3]; first | rfl | (simp [errW_none, errW_some] <;> rfl)) | (simp [*, errW_none, errW_some] <;> rfl), zB⟩
 · rw [if_neg c2] at H
   exact absurd H (by simp)

/-! ### impl_bag_list: function 208 -/
def impl_bag_list.l0 : Nat → Int → List Int → Int → Option (List Int)
 | 0, _, _, _ => none
 | k + 1, x0, x3, x6 => if x6 < 8 then (if 0 ≤ x6 then (if (Go.bits .and .u64 (shr .u64 x0 x6) 1) = 1 then (if x3.length < 17592186044416 then (impl_bag_list.l0 k x0 (x3 ++ [x6]) (wrap64 (x6 + 1))) else (none)) else (impl_bag_list.l0 k x0 x3 (wrap64 (x6 + 1)))) else (none)) else (some x3)
def impl_bag_list.f (k : Nat) (a0 : Int) : Option (List Int) := impl_bag_list.l0 k a0 (([] : List Int)) 0
set_option maxHeartbeats 8000000 in
set_option maxRecDepth 100000 in
theorem impl_bag_list.calls (k : Nat) (a0 : Int) (r : List Int) (w : World) (h : impl_bag_list.f k a0 = some r) :
 Calls Try.prog 208 #[.int .u64 a0] w fun e w' => ∃ v0_ : Value, e = .returned (v0_) ∧ Kd.R (Kd.int .i64) 3 w' w.heap.size (fun _ => True) v0_ r ∧ Below w.heap.size w w' := by
 have HB := zM (Below.refl w.heap.size w)
 have H : (impl_bag_list.l0 k a0 (([] : List Int)) 0) = some r := h
 clear h
 obtain ⟨y102, hy102⟩ : ∃ y_ : List Int, y_ = (([] : List Int)) := ⟨_, rfl⟩
 replace H : (impl_bag_list.l0 k a0 y102 0) = some r := by first | (rw [hy102]; with_reducible exact H) | (have H2_ := (Option.bind_some _ _).symm.trans H; rw [hy102]; with_reducible exact H2_) | (have H2_ := (Option.bind_some _ _).symm.trans H; with_reducible exact H2_) | with_reducible exact H | (rw [hy102]; exact H) | exact H
 have Ny102 := Aside0.mk hy102
 clear hy102
 have H' := Aside0.mk H
 clear H
 go_enter Try.func208, Try.ntmps208
 go_wp2_with (first | ((with_reducible refine gate_dst (N := 5) rfl ?_); refine Kd.R_lit (Kd.int .i64) _ 3 ?hg (N := 5) ?hd (xs := ([] : List Int)) (inner := []) (ok := fun _ => True) (okp := fun _ => True) ?hr ?hp (fun _ hk => hk) trivial (Below.refl _ _) (Nat.le_refl _) (by simp) ?_; (case hd => rfl); (case hg => rfl); (case hr => first | (go_simp; done) | (go_simp; rfl)); (case hp => exact (Reps.none _ _)); intro v103 w2 ho3 hb hg_ hnew_; clear hg_ hnew_; (first | rw [← Ny102.out] at ho3 | (simp only [Int.reduceToNat] at ho3; rw [← Ny102.out] at ho3)); have HO104 := zM (Kd.R_lower ho3 (below_size zB)); replace HB := zM (below_step zB hb); clear hb ho3))
 go_loopg [3, 6] k (fun kq v3 v6 w' => ∃ (x3_1 : List Int) (x6_1 : Int), v6 = .int .i64 x6_1 ∧ Aside0 (impl_bag_list.l0 kq a0 x3_1 x6_1 = some r) ∧ Aside0 (kq ≤ k) ∧ Aside0 (Kd.R (Kd.int .i64) 3 w' w.heap.size (fun _ => True) v3 x3_1) ∧ Aside0 (Below w.heap.size w w'))
 case atStart => exact ⟨(y102), (0), (by first | rfl | (simp; done) | (simp [*]; done)), H', ⟨Nat.le_refl _⟩, ⟨zR HO104.out⟩, ⟨zB⟩⟩
 case round =>
  clear H'
  try clear c2
  try clear p2
  obtain ⟨x3_1, x6_1, rfl, HA, HK1, HO_3, HB⟩ := hrel
  cases gk with
  | zero => exact absurd HA.out (by simp [impl_bag_list.l0])
  | succ k1 =>
   have H := HA.out
   clear HA
   simp only [impl_bag_list.l0] at H
   by_cases c4 : x6_1 < 8
   · rw [if_pos c4] at H
     have c4b0 := decide_eq_true c4
     clear c4
     by_cases c5 : 0 ≤ x6_1
     · rw [if_pos c5] at H
       have c5b0 := eq_true c5
       have c5b1 : decide (0 ≤ x6_1) = true := decide_eq_true c5
       clear c5
       obtain ⟨ji6, hji6⟩ : ∃ j_ : Int, (shr .u64 a0 x6_1) = j_ := ⟨_, rfl⟩
       replace H : (if (Go.bits .and .u64 (ji6) 1) = 1 then (if x3_1.length < 17592186044416 then (impl_bag_list.l0 k1 a0 (x3_1 ++ [x6_1]) (wrap64 (x6_1 + 1))) else (none)) else (impl_bag_list.l0 k1 a0 x3_1 (wrap64 (x6_1 + 1)))) = some r := by first | (rw [hji6] at H; exact H) | (simp only [hji6] at H ⊢; exact H)
       have hji6_ : (a0 / 2 ^ min x6_1.toNat 64) = ji6 := hji6
       have hji6z : x6_1 ≤ 64 → (a0 / 2 ^ x6_1.toNat) = ji6 := shr_small hji6
       by_cases c7 : (Go.bits .and .u64 (ji6) 1) = 1
       · rw [if_pos c7] at H
         have c7b0 : ((Go.bits .and .u64 (ji6) 1) == 1) = true := beq_iff_eq.mpr c7
         have c7b1 : ((Go.bits .and .u64 (ji6) 1) != 1) = false := bne_eq_false_iff_eq.mpr c7
         clear c7
         by_cases c8 : x3_1.length < 17592186044416
         · rw [if_pos c8] at H
           have LMc8 := Aside0.mk c8
           clear c8
           obtain ⟨y105, hy105⟩ : ∃ y_ : List Int, y_ = (x3_1 ++ [x6_1]) := ⟨_, rfl⟩
           replace H : (impl_bag_list.l0 k1 a0 y105 (wrap64 (x6_1 + 1))) = some r := by first | (rw [hy105]; with_reducible exact H) | (have H2_ := (Option.bind_some _ _).symm.trans H; rw [hy105]; with_reducible exact H2_) | (have H2_ := (Option.bind_some _ _).symm.trans H; with_reducible exact H2_) | with_reducible exact H | (rw [hy105]; exact H) | exact H
           have Ny105 := Aside0.mk hy105
           clear hy105
           have H' := Aside0.mk H
           clear H
           go_wp2_with (first | ((with_reducible refine gate_builtin (b := .append) (xs := #[.tmp 14, .tmp 16]) rfl ?_); at_builtin; refine Kd.R_append (Kd.int .i64) (w0 := w) w.heap.size rfl (.tmp 14) (.tmp 16) 26 3 (.int .i64 0) 8 rfl Try.underlying26 info3 rfl (by decide) (by omega) u3 x3_1 x6_1 [.int .i64 x6_1] (fun _ => True) (fun _ => False) rfl rfl ?aP (fun _ hk => hk.elim) ?aF ?aO ?aB ?aS ?aL ?_; (case aP => exact rfl); (case aB => exact zB); (case aF => exact (fun _ _ => trivial)); (case aO => exact (zR HO_3.out)); (case aS => exact (below_size zB)); (case aL => have := LMc8.out; omega); intro v106 w9 ho hb hg hat; rw [← Ny105.out] at ho; replace HB := zM (hb); have HO107 := zM (ho); clear HO_3; clear ho hb hg hat))
           go_roundg k1
           case measure => have := HK1.out; omega
           case rel => exact ⟨(y105), (wrap64 (x6_1 + 1)), (by first | rfl | (simp; done) | (simp [*]; done)), H', ⟨by have := HK1.out; omega⟩, ⟨zR HO107.out⟩, ⟨zB⟩⟩
         · rw [if_neg c8] at H
           exact absurd H (by simp)
       · rw [if_neg c7] at H
         have c7b0 : ((Go.bits .and .u64 (ji6) 1) == 1) = false := beq_eq_false_iff_ne.mpr c7
         have c7b1 : ((Go.bits .and .u64 (ji6) 1) != 1) = true := bne_iff_ne.mpr c7
         have H' := Aside0.mk H
         clear H
         go_wp2
         go_roundg k1
         case measure => have := HK1.out; omega
         case rel => exact ⟨(x3_1), (wrap64 (x6_1 + 1)), (by first | rfl | (simp; done) | (simp [*]; done)), H', ⟨by have := HK1.out; omega⟩, ⟨zR HO_3.out⟩, ⟨zB⟩⟩
     · rw [if_neg c5] at H
       exact absurd H (by simp)
   · rw [if_neg c4] at H
     have c4b0 : decide (x6_1 < 8) = false := decide_eq_false c4
     clear c4
     obtain rfl := Option.some.inj H
     go_wp2
     go_ret
     exact ⟨_, by first | rfl | (simp [errW_none, errW_some] <;> rfl) | (simp [*, errW_none, errW_some] <;> rfl), by (with_reducible repeat (first | apply Kd.R_alloc | apply Kd.R_drewN | apply Kd.R_drew)); exact HO_3.out, zB⟩

end Go.Proofs.Ythnojbafclglpaa.P
namespace Go.Proofs.Ythnojbafclglpaa.P
open Go.RowKit Go.Proofs.YthnojbafclglpaaW.PrintWords Go.Proofs.YthnojbafclglpaaW.PrintLast Go.Proofs.YthnojbafclglpaaW.PrintMore
attribute [local go_sem] max2_int min2_int max_two min_two max_three min_three max_four min_four   -- for this text's walks alone
set_option linter.unusedVariables false
set_option linter.unusedSimpArgs false

/-! ### impl_bag_has: function 211 -/
def impl_bag_has.f (a0 : Int) (a1 : Int) : Option (Bool) := if 0 ≤ a1 then (some ((Go.bits .and .u64 (shr .u64 a0 a1) 1) == 1)) else (none)
set_option maxHeartbeats 8000000 in
set_option maxRecDepth 100000 in
theorem impl_bag_has.calls (a0 : Int) (a1 : Int) (r : Bool) (w : World) (h : impl_bag_has.f a0 a1 = some r) :
 Calls Try.prog 211 #[.int .u64 a0, .int .i64 a1] w fun e w' => e = .returned (.bool r) ∧ Drawn0 w w' := by
 have H : (if 0 ≤ a1 then (some ((Go.bits .and .u64 (shr .u64 a0 a1) 1) == 1)) else (none)) = some r := h
 clear h
 by_cases c3 : 0 ≤ a1
 · rw [if_pos c3] at H
   have c3b0 := eq_true c3
   have c3b1 : decide (0 ≤ a1) = true := decide_eq_true c3
   clear c3
   obtain ⟨ji4, hji4⟩ : ∃ j_ : Int, (shr .u64 a0 a1) = j_ := ⟨_, rfl⟩
   replace H : (some ((Go.bits .and .u64 (ji4) 1) == 1)) = some r := by first | (rw [hji4] at H; exact H) | (simp only [hji4] at H ⊢; exact H)
   have hji4_ : (a0 / 2 ^ min a1.toNat 64) = ji4 := hji4
   have hji4z : a1 ≤ 64 → (a0 / 2 ^ a1.toNat) = ji4 := shr_small hji4
   obtain rfl := Option.some.inj H
   go_enter Try.func211, Try.ntmps211
   go_wp2
   go_ret
   exact ⟨by first | rfl | (simp; done) | (simp only [← hji4] <;> (first | rfl | simp)) | (simp [*]; done), by repeat (first | exact Drawn0.refl _ | apply Drawn0.step)⟩
 · rw [if_neg c3] at H
   exact absurd H (by simp)

end Go.Proofs.Ythnojbafclglpaa.P
namespace Go.Proofs.Ythnojbafclglpaa.P
open Go.RowKit Go.Proofs.YthnojbafclglpaaW.PrintWords Go.Proofs.YthnojbafclglpaaW.PrintLast Go.Proofs.YthnojbafclglpaaW.PrintMore
set_option linter.unusedVariables false
set_option linter.unusedSimpArgs false

def bothB (a1 : Int) (s : S64) : Bool := (impl_bag_has.f a1 s.f0).getD false && (impl_bag_has.f a1 s.f1).getD false
def impl_Graph_isFree.f (a0_0 : Int) (l0_1 : List S64) (a1 : Int) : Option Bool :=
  if l0_1.all (fun s => (impl_bag_has.f a1 s.f0).isSome && (impl_bag_has.f a1 s.f1).isSome) then some (!(l0_1.any (bothB a1))) else none
set_option maxHeartbeats 1000000 in
theorem isFree1_any (gb : Nat) (a1 : Int) (s : S64) (x y : Bool) (hx : impl_bag_has.f a1 s.f0 = some x) (hy : impl_bag_has.f a1 s.f1 = some y) (W : World) (hl : W.cell? ⟨gb, 0, none⟩ = some (.int .u64 a1)) :
    Calls Try.prog 235 (#[.agg #[.int .i64 s.f0, .int .i64 s.f1]] ++ #[.pointer (some ⟨gb, 0, none⟩)]) W fun e w' => e = .returned (.bool (x && y)) ∧ Below W.heap.size W w' := by
  have HX := Aside0.mk hx
  have HY := Aside0.mk hy
  clear hx hy
  show Calls Try.prog 235 #[.agg #[.int .i64 s.f0, .int .i64 s.f1], .pointer (some ⟨gb, 0, none⟩)] W _
  have hl2 := fun o : Obj => pw_cell_below (below_alloc (Below.refl W.heap.size W) o) hl
  go_enter Try.func235, Try.ntmps235
  go_wp2_with fail
  go_at_call 211
  refine (impl_bag_has.calls _ _ x _ HX.out).mono ?_
  rintro e w' ⟨rfl, ⟨n1, rfl⟩⟩
  cases x with
  | true =>
    go_wp2_with fail
    go_at_call 211
    refine (impl_bag_has.calls _ _ y _ HY.out).mono ?_
    rintro e w' ⟨rfl, ⟨n2, rfl⟩⟩
    go_wp2
    go_ret
    exact ⟨by first | rfl | (simp; done), by repeat (first | exact Below.refl _ _ | apply below_alloc | apply pw_below_drewN | apply below_drew1)⟩
  | false =>
    go_wp2
    go_ret
    exact ⟨by first | rfl | (simp; done), by repeat (first | exact Below.refl _ _ | apply below_alloc | apply pw_below_drewN | apply below_drew1)⟩
set_option maxHeartbeats 1000000 in
theorem impl_Graph_isFree.calls (a0_0 : Int) (A0_1 : Option Addr) (c0_1 : Nat) (l0_1 : List (S64)) (a1 : Int) (r : Bool) (w : World) (hr0_1 : Kd.C k64 w A0_1 l0_1.length l0_1) (hc0_1 : l0_1.length ≤ c0_1) (h : impl_Graph_isFree.f a0_0 l0_1 a1 = some r) :
    Calls Try.prog 209 #[.agg #[.int .i64 a0_0, .slice A0_1 l0_1.length c0_1], .int .u64 a1] w fun e w' => e = .returned (.bool r) ∧ Below w.heap.size w w' := by
  unfold impl_Graph_isFree.f at h
  by_cases hall : l0_1.all (fun s => (impl_bag_has.f a1 s.f0).isSome && (impl_bag_has.f a1 s.f1).isSome) = true
  case neg => rw [if_neg hall] at h; cases h
  rw [if_pos hall] at h
  obtain rfl := Option.some.inj h
  have HP := fun (W : World) (gb : Nat) (hl : W.cell? ⟨gb, 0, none⟩ = some (.int .u64 a1)) =>
    Aside0.mk (show PredB 235 #[.pointer (some ⟨gb, 0, none⟩)] (fun x : S64 => Value.agg #[.int .i64 x.f0, .int .i64 x.f1]) (bothB a1) l0_1 W from fun W' x hx hb => by
      have hs := List.all_eq_true.1 hall x hx
      rw [Bool.and_eq_true] at hs
      obtain ⟨b1, h1⟩ := Option.isSome_iff_exists.1 hs.1
      obtain ⟨b2, h2⟩ := Option.isSome_iff_exists.1 hs.2
      have := isFree1_any gb a1 x b1 b2 h1 h2 W' (pw_cell_below hb hl)
      unfold bothB
      rw [h1, h2]
      exact this)
  have HR0 := Aside0.mk hr0_1
  clear hr0_1 hall h
  generalize hg : l0_1.any (bothB a1) = b
  have HG := Aside0.mk hg
  clear hg
  have HB1 := Aside0.mk (below_alloc (below_alloc (Below.refl w.heap.size w) (.cells #[.int .i64 a0_0, .slice A0_1 l0_1.length c0_1] 43)) (.cells #[.int .u64 a1] 144))
  go_enter Try.func209, Try.ntmps209
  go_wp2_with fail
  go_at_call 163
  refine (cont_prs _ _ (enters_of Try.func235 (by kernel_rfl) rfl) _ A0_1 c0_1 l0_1 _ (Kd.C_below HR0.out HB1.out) (HP _ _ (by go_simp)).out).mono ?_
  rintro e w' ⟨rfl, hb⟩
  rw [HG.out]
  have HB := Aside0.mk (below_step HB1.out hb)
  clear hb
  go_wp2
  go_ret
  exact ⟨by first | rfl | (simp; done), HB.out⟩
end Go.Proofs.Ythnojbafclglpaa.P
namespace Go.Proofs.Ythnojbafclglpaa.P
open Go.RowKit Go.Proofs.YthnojbafclglpaaW.PrintWords Go.Proofs.YthnojbafclglpaaW.PrintLast Go.Proofs.YthnojbafclglpaaW.PrintMore
attribute [local go_sem] max2_int min2_int max_two min_two max_three min_three max_four min_four   -- for this text's walks alone
set_option linter.unusedVariables false
set_option linter.unusedSimpArgs false

/-! ### impl_bagOf: function 212 -/
def impl_bagOf.l0 : Nat → Int → List Int → Int → Int → Option (Int)
 | 0, _, _, _, _ => none
 | k + 1, x3, x6, x7, x8 => if x8 < x7 then (if 0 ≤ x8 then (if x8 < (x6.length : Int) then (if 0 ≤ (rd x6 x8) then (impl_bagOf.l0 k (Go.bits .or .u64 x3 (shl .u64 1 (rd x6 x8))) x6 x7 (wrap64 (x8 + 1))) else (none)) else (none)) else (none)) else (some x3)
def impl_bagOf.f (k : Nat) (l0 : List Int) : Option (Int) := impl_bagOf.l0 k 0 l0 (l0.length : Int) 0
set_option maxHeartbeats 8000000 in
set_option maxRecDepth 100000 in
theorem impl_bagOf.calls (k : Nat) (A0 : Option Addr) (c0 : Nat) (l0 : List Int) (r : Int) (w : World) (hr0 : Kd.C (Kd.int .i64) w A0 l0.length l0) (hc0 : l0.length ≤ c0) (h : impl_bagOf.f k l0 = some r) :
 Calls Try.prog 212 #[.slice A0 l0.length c0] w fun e w' => e = .returned (.int .u64 r) ∧ Drawn0 w w' := by
 have HR0 := Aside0.mk hr0
 have HC0 := Aside0.mk hc0
 clear hr0 hc0
 have H : (impl_bagOf.l0 k 0 l0 (l0.length : Int) 0) = some r := h
 clear h
 have H' := Aside0.mk H
 clear H
 go_enter Try.func212, Try.ntmps212
 go_wp2
 go_loopg [3, 8] k (fun kq v3 v8 w' => ∃ (x3_1 : Int) (x8_1 : Int), v3 = .int .u64 x3_1 ∧ v8 = .int .i64 x8_1 ∧ Aside0 (impl_bagOf.l0 kq x3_1 l0 (l0.length : Int) x8_1 = some r) ∧ Aside0 (kq ≤ k) ∧ Drawn0 w w')
 case atStart => exact ⟨(0), (0), (by first | rfl | (simp; done) | (simp [*]; done)), (by first | rfl | (simp; done) | (simp [*]; done)), H', ⟨Nat.le_refl _⟩, by repeat (first | exact Drawn0.refl _ | apply Drawn0.step)⟩
 case round =>
  clear H'
  obtain ⟨x3_1, x8_1, rfl, rfl, HA, HK1, ⟨m1, rfl⟩⟩ := hrel
  cases gk with
  | zero => exact absurd HA.out (by simp [impl_bagOf.l0])
  | succ k1 =>
   have H := HA.out
   clear HA
   simp only [impl_bagOf.l0] at H
   by_cases c2 : x8_1 < (l0.length : Int)
   · rw [if_pos c2] at H
     have c2b0 := decide_eq_true c2
     clear c2
     by_cases c3 : 0 ≤ x8_1
     · rw [if_pos c3] at H
       have c3b0 := decide_eq_true c3
       clear c3
       by_cases c4 : x8_1 < (l0.length : Int)
       · rw [if_pos c4] at H
         have c4b0 := decide_eq_true c4
         clear c4
         by_cases c5 : 0 ≤ (rd l0 x8_1)
         · rw [if_pos c5] at H
           have c5b0 := eq_true c5
           have c5b1 : decide (0 ≤ (rd l0 x8_1)) = true := decide_eq_true c5
           clear c5
           obtain ⟨ji6, hji6⟩ : ∃ j_ : Int, (shl .u64 1 (rd l0 x8_1)) = j_ := ⟨_, rfl⟩
           replace H : (impl_bagOf.l0 k1 (Go.bits .or .u64 x3_1 (ji6)) l0 (l0.length : Int) (wrap64 (x8_1 + 1))) = some r := by first | (rw [hji6] at H; exact H) | (simp only [hji6] at H ⊢; exact H)
           have hji6_ : (IntKind.u64.wrap (1 * 2 ^ min (rd l0 x8_1).toNat 64)) = ji6 := hji6
           have hji6z : (rd l0 x8_1) ≤ 64 → (IntKind.u64.wrap (1 * 2 ^ (rd l0 x8_1).toNat)) = ji6 := shl_small hji6
           have hji6u : (IntKind.u64.wrap (2 ^ min (rd l0 x8_1).toNat 64)) = ji6 := by have h_ := hji6_; rw [Int.one_mul] at h_; exact h_
           have hji6v : (rd l0 x8_1) ≤ 64 → (IntKind.u64.wrap (2 ^ (rd l0 x8_1).toNat)) = ji6 := fun hle_ => by have h_ := hji6z hle_; rw [Int.one_mul] at h_; exact h_
           have H' := Aside0.mk H
           clear H
           have p117 : 0 ≤ (x8_1 : Int) := of_decide_eq_true zA
           have q117 : x8_1 < (l0.length : Int) := of_decide_eq_true zA
           obtain ⟨ad117, e117, hx117_0⟩ := Kd.at_int HR0.out x8_1 p117 q117
           cases e117
           replace p117 := eq_true p117
           replace q117 := eq_true q117
           go_wp2
           go_roundg k1
           case measure => have := HK1.out; omega
           case rel => exact ⟨(Go.bits .or .u64 x3_1 (ji6)), (wrap64 (x8_1 + 1)), (by first | rfl | (simp; done) | (simp only [← hji6] <;> (first | rfl | simp)) | (simp [*]; done)), (by first | rfl | (simp; done) | (simp [*]; done)), H', ⟨by have := HK1.out; omega⟩, by repeat (first | exact Drawn0.refl _ | apply Drawn0.step)⟩
         · rw [if_neg c5] at H
           exact absurd H (by simp)
       · rw [if_neg c4] at H
         exact absurd H (by simp)
     · rw [if_neg c3] at H
       exact absurd H (by simp)
   · rw [if_neg c2] at H
     have c2b0 : decide (x8_1 < (l0.length : Int)) = false := decide_eq_false c2
     clear c2
     obtain rfl := Option.some.inj H
     go_wp2
     go_ret
     exact ⟨by first | rfl | (simp; done) | (simp [*]; done), by repeat (first | exact Drawn0.refl _ | apply Drawn0.step)⟩

/-! ### impl_Graph_neighbors: function 213 -/
def impl_Graph_neighbors.l0 : Nat → Int → List Int → Int → Int → Int → List (S64) → Option (List Int)
 | 0, _, _, _, _, _, _ => none
 | k + 1, x1, x5, x9, x10, x119000, x119001 => if x10 < x9 then (if x10 = x1 then (impl_Graph_neighbors.l0 k x1 x5 x9 (wrap64 (x10 + 1)) x119000 x119001) else ((impl_Graph_has.f k x119000 x119001 x1 x10).bind fun t122 => (if t122 = true then (if x5.length < 17592186044416 then (impl_Graph_neighbors.l0 k x1 (x5 ++ [x10]) x9 (wrap64 (x10 + 1)) x119000 x119001) else (none)) else (impl_Graph_neighbors.l0 k x1 x5 x9 (wrap64 (x10 + 1)) x119000 x119001)))) else (some x5)
def impl_Graph_neighbors.f (k : Nat) (a0_0 : Int) (l0_1 : List (S64)) (a1 : Int) : Option (List Int) := impl_Graph_neighbors.l0 k a1 (([] : List Int)) a0_0 0 a0_0 l0_1
set_option maxHeartbeats 8000000 in
set_option maxRecDepth 100000 in
theorem impl_Graph_neighbors.calls (k : Nat) (a0_0 : Int) (A0_1 : Option Addr) (c0_1 : Nat) (l0_1 : List (S64)) (a1 : Int) (r : List Int) (w : World) (hr0_1 : Kd.C k64 w A0_1 l0_1.length l0_1) (hc0_1 : l0_1.length ≤ c0_1) (h : impl_Graph_neighbors.f k a0_0 l0_1 a1 = some r) :
 Calls Try.prog 213 #[.agg #[.int .i64 a0_0, .slice A0_1 l0_1.length c0_1], .int .i64 a1] w fun e w' => ∃ v0_ : Value, e = .returned (v0_) ∧ Kd.R (Kd.int .i64) 3 w' w.heap.size (fun _ => True) v0_ r ∧ Below w.heap.size w w' := by
 have hu43 := Try.underlying43
 have HR0_1 := Aside0.mk hr0_1
 have HC0_1 := Aside0.mk hc0_1
 clear hr0_1 hc0_1
 have HB := zM (Below.refl w.heap.size w)
 have H : (impl_Graph_neighbors.l0 k a1 (([] : List Int)) a0_0 0 a0_0 l0_1) = some r := h
 clear h
 obtain ⟨y119, hy119⟩ : ∃ y_ : List Int, y_ = (([] : List Int)) := ⟨_, rfl⟩
 replace H : (impl_Graph_neighbors.l0 k a1 y119 a0_0 0 a0_0 l0_1) = some r := by first | (rw [hy119]; with_reducible exact H) | (have H2_ := (Option.bind_some _ _).symm.trans H; rw [hy119]; with_reducible exact H2_) | (have H2_ := (Option.bind_some _ _).symm.trans H; with_reducible exact H2_) | with_reducible exact H | (rw [hy119]; exact H) | exact H
 have Ny119 := Aside0.mk hy119
 clear hy119
 have H' := Aside0.mk H
 clear H
 go_enter Try.func213, Try.ntmps213
 go_wp2_with (first | ((with_reducible refine gate_dst (N := 2) rfl ?_); refine zb (w := w) 2 #[.int .i64 a0_0, .slice A0_1 l0_1.length c0_1] 43 zB ?_; clear HB; intro gb118 w3 HB BK118 GW118; have GE118 := GW118) | ((with_reducible refine gate_dst (N := 7) rfl ?_); refine Kd.R_lit (Kd.int .i64) _ 3 ?hg (N := 7) ?hd (xs := ([] : List Int)) (inner := []) (ok := fun _ => True) (okp := fun _ => True) ?hr ?hp (fun _ hk => hk) trivial (Below.refl _ _) (Nat.le_refl _) (by simp) ?_; (case hd => rfl); (case hg => rfl); (case hr => first | (go_simp; done) | (go_simp; rfl)); (case hp => exact (Reps.none _ _)); intro v120 w4 ho5 hb hg_ hnew_; clear hg_ hnew_; (first | rw [← Ny119.out] at ho5 | (simp only [Int.reduceToNat] at ho5; rw [← Ny119.out] at ho5)); have HO121 := zM (Kd.R_lower ho5 (below_size zB)); replace BK118 := zM (blk_below (g := gb118) (o := .cells #[.int .i64 a0_0, .slice A0_1 l0_1.length c0_1] 43 (0, 0)) (zK BK118.out) hb); replace HB := zM (below_step zB hb); clear hb ho5; have hcz6_0 := zy BK118 0; have hcz6_1 := zy BK118 1; have hfz6_0 := blk_frozen BK118.out 0; have hfz6_1 := blk_frozen BK118.out 1))
 go_loopg [5, 10] k (fun kq v5 v10 w' => ∃ (x5_1 : List Int) (x10_1 : Int), v10 = .int .i64 x10_1 ∧ Aside0 (impl_Graph_neighbors.l0 kq a1 x5_1 a0_0 x10_1 a0_0 l0_1 = some r) ∧ Aside0 (kq ≤ k) ∧ Aside0 (Kd.R (Kd.int .i64) 3 w' w.heap.size (fun _ => True) v5 x5_1) ∧ Aside0 (w'.heap[gb118]? = some (.cells #[.int .i64 a0_0, (.slice A0_1 l0_1.length c0_1)] 43 (0, 0))) ∧ Aside0 (Below w.heap.size w w'))
 case atStart => exact ⟨(y119), (0), (by first | rfl | (simp; done) | (simp [*]; done)), H', ⟨Nat.le_refl _⟩, ⟨zR HO121.out⟩, ⟨zK BK118.out⟩, ⟨zB⟩⟩
 case round =>
  clear H'
  try clear c2
  try clear p2
  try clear hcz6_0
  try clear hcz6_1
  try clear hfz6_0
  try clear hfz6_1
  obtain ⟨x5_1, x10_1, rfl, HA, HK1, HO_5, BK118, HB⟩ := hrel
  cases gk with
  | zero => exact absurd HA.out (by simp [impl_Graph_neighbors.l0])
  | succ k1 =>
   have H := HA.out
   clear HA
   simp only [impl_Graph_neighbors.l0] at H
   by_cases c7 : x10_1 < a0_0
   · rw [if_pos c7] at H
     have c7b0 := decide_eq_true c7
     clear c7
     by_cases c8 : x10_1 = a1
     · rw [if_pos c8] at H
       have c8b0 : (x10_1 == a1) = true := beq_iff_eq.mpr c8
       have c8b1 : (x10_1 != a1) = false := bne_eq_false_iff_eq.mpr c8
       clear c8
       have H' := Aside0.mk H
       clear H
       go_wp2
       go_roundg k1
       case measure => have := HK1.out; omega
       case rel => exact ⟨(x5_1), (wrap64 (x10_1 + 1)), (by first | rfl | (simp; done) | (simp [*]; done)), H', ⟨by have := HK1.out; omega⟩, ⟨zR HO_5.out⟩, ⟨zK BK118.out⟩, ⟨zB⟩⟩
     · rw [if_neg c8] at H
       have c8b0 : (x10_1 == a1) = false := beq_eq_false_iff_ne.mpr c8
       have c8b1 : (x10_1 != a1) = true := bne_iff_ne.mpr c8
       replace H := Option.bind_eq_some_iff.mp H
       obtain ⟨t122, A90, H⟩ := H
       have A9 := Aside0.mk A90
       clear A90
       by_cases c10 : t122 = true
       · subst c10
         rw [if_pos rfl] at H
         by_cases c11 : x5_1.length < 17592186044416
         · rw [if_pos c11] at H
           have LMc11 := Aside0.mk c11
           clear c11
           obtain ⟨y123, hy123⟩ : ∃ y_ : List Int, y_ = (x5_1 ++ [x10_1]) := ⟨_, rfl⟩
           replace H : (impl_Graph_neighbors.l0 k1 a1 y123 a0_0 (wrap64 (x10_1 + 1)) a0_0 l0_1) = some r := by first | (rw [hy123]; with_reducible exact H) | (have H2_ := (Option.bind_some _ _).symm.trans H; rw [hy123]; with_reducible exact H2_) | (have H2_ := (Option.bind_some _ _).symm.trans H; with_reducible exact H2_) | with_reducible exact H | (rw [hy123]; exact H) | exact H
           have Ny123 := Aside0.mk hy123
           clear hy123
           have H' := Aside0.mk H
           clear H
           have hcz12_0 := zy BK118 0
           have hcz12_1 := zy BK118 1
           have hfz12_0 := blk_frozen BK118.out 0
           have hfz12_1 := blk_frozen BK118.out 1
           go_wp2_with (first | (go_at_call 210; (with_reducible refine (impl_Graph_has.calls k1 a0_0 _ _ l0_1 a1 x10_1 true _ ?side1 ?side2 A9.out).mono ?_); (case side1 => exact zC (Kd.C_below HR0_1.out HB.out)); (case side2 => exact HC0_1.out); rintro e w13 ⟨rfl, hb⟩; replace HO_5 := zM (Kd.R_below (zR HO_5.out) hb); replace BK118 := zM (blk_below (g := gb118) (o := .cells #[.int .i64 a0_0, .slice A0_1 l0_1.length c0_1] 43 (0, 0)) (zK BK118.out) hb); replace HB := zM (below_step zB hb); (try clear hb); (try clear hb2); (try clear hk); (try clear hi)) | ((with_reducible refine gate_builtin (b := .append) (xs := #[.tmp 22, .tmp 24]) rfl ?_); at_builtin; refine Kd.R_append (Kd.int .i64) (w0 := w) w.heap.size rfl (.tmp 22) (.tmp 24) 26 3 (.int .i64 0) 8 rfl Try.underlying26 info3 rfl (by decide) (by omega) u5 x5_1 x10_1 [.int .i64 x10_1] (fun _ => True) (fun _ => False) rfl rfl ?aP (fun _ hk => hk.elim) ?aF ?aO ?aB ?aS ?aL ?_; (case aP => exact rfl); (case aB => exact zB); (case aF => exact (fun _ _ => trivial)); (case aO => exact (zR HO_5.out)); (case aS => exact (below_size zB)); (case aL => have := LMc11.out; omega); intro v124 w14 ho hb hg hat; rw [← Ny123.out] at ho; replace BK118 := zM (blk_grown (g := gb118) (o := .cells #[.int .i64 a0_0, .slice A0_1 l0_1.length c0_1] 43 (0, 0)) (zK BK118.out) hg (Kd.R_ne HO_5.out BK118.out (by decide))); replace HB := zM (hb); have HO125 := zM (ho); clear HO_5; clear ho hb hg hat))
           go_roundg k1
           case measure => have := HK1.out; omega
           case rel => exact ⟨(y123), (wrap64 (x10_1 + 1)), (by first | rfl | (simp; done) | (simp [*]; done)), H', ⟨by have := HK1.out; omega⟩, ⟨zR HO125.out⟩, ⟨zK BK118.out⟩, ⟨zB⟩⟩
         · rw [if_neg c11] at H
           exact absurd H (by simp)
       · replace c10 := Bool.eq_false_iff.mpr c10
         subst c10
         have H1 : (impl_Graph_neighbors.l0 k1 a1 x5_1 a0_0 (wrap64 (x10_1 + 1)) a0_0 l0_1) = some r := by rw [if_neg (show ¬ (false = true) by decide)] at H; exact H
         clear H
         have H := H1
         clear H1
         have H' := Aside0.mk H
         clear H
         have hcz15_0 := zy BK118 0
         have hcz15_1 := zy BK118 1
         have hfz15_0 := blk_frozen BK118.out 0
         have hfz15_1 := blk_frozen BK118.out 1
         go_wp2_with (first | (go_at_call 210; (with_reducible refine (impl_Graph_has.calls k1 a0_0 _ _ l0_1 a1 x10_1 false _ ?side1 ?side2 A9.out).mono ?_); (case side1 => exact zC (Kd.C_below HR0_1.out HB.out)); (case side2 => exact HC0_1.out); rintro e w16 ⟨rfl, hb⟩; replace HO_5 := zM (Kd.R_below (zR HO_5.out) hb); replace BK118 := zM (blk_below (g := gb118) (o := .cells #[.int .i64 a0_0, .slice A0_1 l0_1.length c0_1] 43 (0, 0)) (zK BK118.out) hb); replace HB := zM (below_step zB hb); (try clear hb); (try clear hb2); (try clear hk); (try clear hi)))
         go_roundg k1
         case measure => have := HK1.out; omega
         case rel => exact ⟨(x5_1), (wrap64 (x10_1 + 1)), (by first | rfl | (simp; done) | (simp [*]; done)), H', ⟨by have := HK1.out; omega⟩, ⟨zR HO_5.out⟩, ⟨zK BK118.out⟩, ⟨zB⟩⟩
   · rw [if_neg c7] at H
     have c7b0 : decide (x10_1 < a0_0) = false := decide_eq_false c7
     clear c7
     obtain rfl := Option.some.inj H
     go_wp2
     go_ret
     exact ⟨_, by first | rfl | (simp [errW_none, errW_some] <;> rfl) | (simp [*, errW_none, errW_some] <;> rfl), by (with_reducible repeat (first | apply Kd.R_alloc | apply Kd.R_drewN | apply Kd.R_drew)); exact HO_5.out, zB⟩

/-! ### impl_Graph_hasKind: function 172 -/
mutual
def impl_Graph_hasKind.l0 : Nat → List Int → List Int → Int → Int → Int → List (S64) → Option (Bool)
 | 0, _, _, _, _, _, _ => none
 | k + 1, x7, x26, x27, x28, x127000, x127001 => if x28 < x27 then (if 0 ≤ x28 then (if x28 < (x26.length : Int) then (if x28 ≤ (x7.length : Int) then ((some (x7.take (x28 : Int).toNat : List Int)).bind fun y133 => (impl_Graph_hasKind.l1 k x7 (rd x26 x28) x26 x27 x28 y133 (y133.length : Int) 0 x127000 x127001)) else (none)) else (none)) else (none)) else (some true)
def impl_Graph_hasKind.l1 : Nat → List Int → Int → List Int → Int → Int → List Int → Int → Int → Int → List (S64) → Option (Bool)
 | 0, _, _, _, _, _, _, _, _, _, _ => none
 | k + 1, x7, x9, x26, x27, x28, x35, x36, x37, x127000, x127001 => if x37 < x36 then (if 0 ≤ x37 then (if x37 < (x35.length : Int) then ((impl_Graph_has.f k x127000 x127001 x9 (rd x35 x37)).bind fun t138 => (if t138 = true then (impl_Graph_hasKind.l1 k x7 x9 x26 x27 x28 x35 x36 (wrap64 (x37 + 1)) x127000 x127001) else (some false))) else (none)) else (none)) else (impl_Graph_hasKind.l0 k x7 x26 x27 (wrap64 (x28 + 1)) x127000 x127001)
def impl_Graph_hasKind.l2 : Nat → Int → Int → Int → Int → List (S64) → Option (Bool)
 | 0, _, _, _, _, _ => none
 | k + 1, x2, x49, x50, x127000, x127001 => if x50 < x49 then ((impl_bag_has.f x2 x50).bind fun t139 => (if t139 = true then (impl_Graph_hasKind.l2 k x2 x49 (wrap64 (x50 + 1)) x127000 x127001) else ((impl_Graph_neighbors.f k x127000 x127001 x50).bind fun t140 => ((impl_bagOf.f k t140).bind fun t143 => (if (Go.bits .and .u64 t143 x2) = 0 then (some false) else (impl_Graph_hasKind.l2 k x2 x49 (wrap64 (x50 + 1)) x127000 x127001)))))) else (some true)
end
def impl_Graph_hasKind.f (k : Nat) (a0_0 : Int) (l0_1 : List (S64)) (a1 : Int) (a2 : Int) : Option (Bool) := if a1 = 1 then ((impl_Graph_all.f a0_0 l0_1).bind fun t127 => ((impl_Graph_isFree.f a0_0 l0_1 (Go.bits .andNot .u64 t127 a2)).bind fun t128 => (some t128))) else (if a1 = 2 then ((impl_bag_list.f k a2).bind fun t129 => (impl_Graph_hasKind.l0 k t129 t129 (t129.length : Int) 0 a0_0 l0_1)) else (impl_Graph_hasKind.l2 k a2 a0_0 0 a0_0 l0_1))
set_option maxHeartbeats 8000000 in
set_option maxRecDepth 100000 in
theorem impl_Graph_hasKind.calls (k : Nat) (a0_0 : Int) (A0_1 : Option Addr) (c0_1 : Nat) (l0_1 : List (S64)) (a1 : Int) (a2 : Int) (r : Bool) (w : World) (hr0_1 : Kd.C k64 w A0_1 l0_1.length l0_1) (hc0_1 : l0_1.length ≤ c0_1) (h : impl_Graph_hasKind.f k a0_0 l0_1 a1 a2 = some r) :
 Calls Try.prog 172 #[.agg #[.int .i64 a0_0, .slice A0_1 l0_1.length c0_1], .int .i64 a1, .int .u64 a2] w fun e w' => e = .returned (.bool r) ∧ Below w.heap.size w w' := by
 have hu43 := Try.underlying43
 have HR0_1 := Aside0.mk hr0_1
 have HC0_1 := Aside0.mk hc0_1
 clear hr0_1 hc0_1
 have HB := zM (Below.refl w.heap.size w)
 have H : (if a1 = 1 then ((impl_Graph_all.f a0_0 l0_1).bind fun t127 => ((impl_Graph_isFree.f a0_0 l0_1 (Go.bits .andNot .u64 t127 a2)).bind fun t128 => (some t128))) else (if a1 = 2 then ((impl_bag_list.f k a2).bind fun t129 => (impl_Graph_hasKind.l0 k t129 t129 (t129.length : Int) 0 a0_0 l0_1)) else (impl_Graph_hasKind.l2 k a2 a0_0 0 a0_0 l0_1))) = some r := h
 clear h
 by_cases c4 : a1 = 1
 · rw [if_pos c4] at H
   have c4b0 : (a1 == 1) = true := beq_iff_eq.mpr c4
   have c4b1 : (a1 != 1) = false := bne_eq_false_iff_eq.mpr c4
   clear c4
   replace H := Option.bind_eq_some_iff.mp H
   obtain ⟨t127, A50, H⟩ := H
   have A5 := Aside0.mk A50
   clear A50
   replace H := Option.bind_eq_some_iff.mp H
   obtain ⟨t128, A60, H⟩ := H
   have A6 := Aside0.mk A60
   clear A60
   obtain rfl := Option.some.inj H
   go_enter Try.func172, Try.ntmps172
   try go_wp2_with (first | ((with_reducible refine gate_dst (N := 3) rfl ?_); refine zb (w := w) 3 #[.int .i64 a0_0, .slice A0_1 l0_1.length c0_1] 43 zB ?_; clear HB; intro gb126 w7 HB BK126 GW126; have GE126 := GW126))
   replace BK126 := zM (blk_drew BK126.out)
   replace HB := zM (below_drew1 HB.out)
   refine zs (n := 7) (fun w' => w'.cell? ⟨gb126, 0, none⟩ = some (.int .i64 a0_0) ∧ w'.cell? ⟨gb126, 1, none⟩ = some (.slice A0_1 l0_1.length c0_1)) ⟨(blk_cell BK126.out 0).trans rfl, (blk_cell BK126.out 1).trans rfl⟩ (fun hHeld => ?_)
   generalize w7.drew = w8 at BK126 HB hHeld ⊢
   refine zq 3 19 ?_
   refine zl 0 16 hHeld ?_ (hy := by rintro w' ⟨s0, s1⟩; go_simp; with_reducible rfl)
   refine zl 1 17 hHeld ?_ (hy := by rintro w' ⟨s0, s1⟩; go_simp; with_reducible rfl)
   refine zh 2 18 Try.func207 #[.agg #[.int .i64 a0_0, .slice A0_1 l0_1.length c0_1]] (fun K hK => ?_)
   with_reducible refine (impl_Graph_all.calls a0_0 _ _ l0_1 t127 _ ?side1 ?side2 A5.out).mono ?_
   (case side1 => exact zC (Kd.C_below HR0_1.out HB.out))
   (case side2 => exact HC0_1.out)
   rintro e w9 ⟨rfl, hb⟩
   refine ⟨_, rfl, ?_⟩
   replace BK126 := zM (blk_below (g := gb126) (o := .cells #[.int .i64 a0_0, .slice A0_1 l0_1.length c0_1] 43 (0, 0)) (zK BK126.out) hb)
   replace HB := zM (below_step zB hb)
   (try clear hb)
   (try clear hb2)
   (try clear hk)
   (try clear hi)
   refine hK.out _ _ ⟨(blk_cell BK126.out 0).trans rfl, (blk_cell BK126.out 1).trans rfl⟩ (fun hHeld => ?_)
   clear hK K
   refine zn 18 ?_
   refine zq 4 20 ?_
   refine zh 5 21 Try.func209 #[.agg #[.int .i64 a0_0, .slice A0_1 l0_1.length c0_1], .int .u64 (Go.bits .andNot .u64 t127 a2)] (fun K hK => ?_)
   with_reducible refine (impl_Graph_isFree.calls a0_0 _ _ l0_1 (Go.bits .andNot .u64 t127 a2) t128 _ ?side1 ?side2 A6.out).mono ?_
   (case side1 => exact zC (Kd.C_below HR0_1.out HB.out))
   (case side2 => exact HC0_1.out)
   rintro e w10 ⟨rfl, hb⟩
   refine ⟨_, rfl, ?_⟩
   replace BK126 := zM (blk_below (g := gb126) (o := .cells #[.int .i64 a0_0, .slice A0_1 l0_1.length c0_1] 43 (0, 0)) (zK BK126.out) hb)
   replace HB := zM (below_step zB hb)
   (try clear hb)
   (try clear hb2)
   (try clear hk)
   (try clear hi)
   refine hK.out _ _ ⟨(blk_cell BK126.out 0).trans rfl, (blk_cell BK126.out 1).trans rfl⟩ (fun hHeld => ?_)
   clear hK K
   refine zn 21 ?_
   refine zq 6 6 ?_
   refine zx ?_
   try go_wp2
   go_ret
   exact ⟨by first | rfl | (simp [errW_none, errW_some] <;> rfl) | (simp [*, errW_none, errW_some] <;> rfl), zB⟩
 · rw [if_neg c4] at H
   have c4b0 : (a1 == 1) = false := beq_eq_false_iff_ne.mpr c4
   have c4b1 : (a1 != 1) = true := bne_iff_ne.mpr c4
   by_cases c11 : a1 = 2
   · rw [if_pos c11] at H
     have c11b0 : (a1 == 2) = true := beq_iff_eq.mpr c11
     have c11b1 : (a1 != 2) = false := bne_eq_false_iff_eq.mpr c11
     clear c11
     replace H := Option.bind_eq_some_iff.mp H
     obtain ⟨t129, A120, H⟩ := H
     have A12 := Aside0.mk A120
     clear A120
     have H' := Aside0.mk H
     clear H
     go_enter Try.func172, Try.ntmps172
     go_wp2_with (first | ((with_reducible refine gate_dst (N := 3) rfl ?_); refine zb (w := w) 3 #[.int .i64 a0_0, .slice A0_1 l0_1.length c0_1] 43 zB ?_; clear HB; intro gb126 w13 HB BK126 GW126; have GE126 := GW126) | ((with_reducible refine gate_callee (f := 208) rfl ?_); refine zc 25 Try.func208 #[.int .u64 a2] ?_; (with_reducible refine (impl_bag_list.calls k a2 t129 _ A12.out).mono ?_); rintro e w14 ⟨v130, rfl, ho0, hb⟩; refine ⟨_, rfl, ?_⟩; have HO131 := zM (Kd.R_lower ho0 (below_size zB)); replace BK126 := zM (blk_below (g := gb126) (o := .cells #[.int .i64 a0_0, .slice A0_1 l0_1.length c0_1] 43 (0, 0)) (zK BK126.out) hb); replace HB := zM (below_step zB hb); (try clear hb); (try clear hb2); (try clear hk); (try clear hi); (try clear ho0); obtain ⟨Ao15, co15, eo15⟩ := Kd.R_slice HO131.out; subst eo15))
     go_loopg [28] k (fun kq v28 w' => ∃ (x28_1 : Int), v28 = .int .i64 x28_1 ∧ Aside0 (impl_Graph_hasKind.l0 kq t129 t129 (t129.length : Int) x28_1 a0_0 l0_1 = some r) ∧ Aside0 (kq ≤ k) ∧ Aside0 (Kd.R (Kd.int .i64) 3 w' w.heap.size (fun _ => True) (.slice Ao15 t129.length co15) t129) ∧ Aside0 (Kd.R (Kd.int .i64) 3 w' w.heap.size (fun _ => True) (.slice Ao15 t129.length co15) t129) ∧ Aside0 (w'.heap[gb126]? = some (.cells #[.int .i64 a0_0, (.slice A0_1 l0_1.length c0_1)] 43 (0, 0))) ∧ Aside0 (Below w.heap.size w w'))
     case atStart => exact ⟨(0), (by first | rfl | (simp; done) | (simp [*]; done)), H', ⟨Nat.le_refl _⟩, ⟨zR HO131.out⟩, ⟨zR HO131.out⟩, ⟨zK BK126.out⟩, ⟨zB⟩⟩
     case round =>
      clear H'
      try clear c1
      try clear c2
      try clear p2
      try clear c4
      try clear c4b0
      try clear c4b1
      try clear c11
      try clear c11b0
      try clear c11b1
      obtain ⟨x28_1, rfl, HA, HK1, HO_7, HO_26, BK126, HB⟩ := hrel
      cases gk with
      | zero => exact absurd HA.out (by simp [impl_Graph_hasKind.l0])
      | succ k1 =>
       have H := HA.out
       clear HA
       simp only [impl_Graph_hasKind.l0] at H
       by_cases c16 : x28_1 < (t129.length : Int)
       · rw [if_pos c16] at H
         have c16b0 := decide_eq_true c16
         clear c16
         by_cases c17 : 0 ≤ x28_1
         · rw [if_pos c17] at H
           have c17b0 := decide_eq_true c17
           clear c17
           by_cases c18 : x28_1 < (t129.length : Int)
           · rw [if_pos c18] at H
             have c18b0 := decide_eq_true c18
             clear c18
             have c19b0 := eq_true (of_decide_eq_true zA : 0 ≤ x28_1)
             by_cases c20 : x28_1 ≤ (t129.length : Int)
             · rw [if_pos c20] at H
               have c20b0 := eq_true c20
               have c20b1 : decide (x28_1 ≤ (t129.length : Int)) = true := decide_eq_true c20
               clear c20
               obtain ⟨y133, hy133⟩ : ∃ y_ : List Int, y_ = (t129.take (x28_1 : Int).toNat) := ⟨_, rfl⟩
               replace H : (impl_Graph_hasKind.l1 k1 t129 (rd t129 x28_1) t129 (t129.length : Int) x28_1 y133 (y133.length : Int) 0 a0_0 l0_1) = some r := by first | (rw [hy133]; with_reducible exact H) | (have H2_ := (Option.bind_some _ _).symm.trans H; rw [hy133]; with_reducible exact H2_) | (have H2_ := (Option.bind_some _ _).symm.trans H; with_reducible exact H2_) | with_reducible exact H | (rw [hy133]; exact H) | exact H
               have Ny133 := Aside0.mk hy133
               clear hy133
               have H' := Aside0.mk H
               clear H
               have p132 : 0 ≤ (x28_1 : Int) := of_decide_eq_true zA
               have q132 : x28_1 < (t129.length : Int) := of_decide_eq_true zA
               obtain ⟨ad132, e132, hx132_0⟩ := Kd.at_int (Kd.R_reads' HO_26.out).2.2 x28_1 p132 q132
               cases e132
               replace p132 := eq_true p132
               replace q132 := eq_true q132
               have q21 : (x28_1 : Int) ≤ ((t129.length : Int) : Int) := of_decide_eq_true zA
               obtain ⟨i021, hi021, _, hsz21, _⟩ := info_parts info3
               have hroom21 : t129.length ≤ co15 := (Kd.R_reads' HO_7.out).2.1
               have hC21 : Kd.C (Kd.int .i64) _ (some ad132) t129.length t129 := (Kd.R_reads' HO_7.out).2.2
               have hcut21 := cut_to (P := Try.prog) 26 3 .i64 Try.underlying26 hi021 (some ad132) t129.length co15 x28_1 (of_decide_eq_true zA) q21 hroom21
               have hr21 := Kd.C_take (m := (x28_1 : Int).toNat) hC21 (by omega)
               have hy21 : y133.length = (x28_1 : Int).toNat := (by rw [Ny133.out, List.length_take]; omega)
               rw [← Ny133.out] at hr21
               rw [← hy21] at hcut21
               have HR136 := Aside0.mk hr21
               have HC136 := zM (show y133.length ≤ co15 from by omega)
               clear hr21 hC21 hroom21 hi021 hsz21
               have KY21 := Aside0.mk hy21
               clear hy21
               have KL21 := zM (show (x28_1 : Int).toNat ≤ t129.length from by omega)
               replace q21 := eq_true q21
               go_wp2
               go_loopg [37] k1 (fun kq v37 w' => ∃ (x37_2 : Int), v37 = .int .i64 x37_2 ∧ Aside0 (impl_Graph_hasKind.l1 kq t129 (rd t129 x28_1) t129 (t129.length : Int) x28_1 y133 (y133.length : Int) x37_2 a0_0 l0_1 = some r) ∧ Aside0 (kq ≤ k1) ∧ Aside0 (Kd.R (Kd.int .i64) 3 w' w.heap.size (fun _ => True) (.slice (some ad132) t129.length co15) t129) ∧ Aside0 (Kd.R (Kd.int .i64) 3 w' w.heap.size (fun _ => True) (.slice (some ad132) t129.length co15) t129) ∧ Aside0 (w'.heap[gb126]? = some (.cells #[.int .i64 a0_0, (.slice A0_1 l0_1.length c0_1)] 43 (0, 0))) ∧ Aside0 (Kd.C (Kd.int .i64) w' (some ad132) y133.length y133) ∧ Aside0 (Below w.heap.size w w'))
               case atStart => exact ⟨(0), (by first | rfl | (simp; done) | (simp [*]; done)), H', ⟨Nat.le_refl _⟩, ⟨zR HO_7.out⟩, ⟨zR HO_26.out⟩, ⟨zK BK126.out⟩, ⟨zC HR136.out⟩, ⟨zB⟩⟩
               case round =>
                clear H'
                try clear c1
                try clear p1
                try clear q1
                try clear hx1
                try clear c2
                try clear p2
                try clear q2
                try clear c4
                try clear c4b0
                try clear c4b1
                try clear c11
                try clear c11b0
                try clear c11b1
                try clear p13
                try clear q13
                try clear hx13
                try clear c16
                try clear c16b0
                try clear c17
                try clear c17b0
                try clear c18
                try clear c18b0
                try clear c19
                try clear c19b0
                try clear c20
                try clear c20b0
                try clear c20b1
                try clear q21
                try clear hx132_0
                try clear p132
                try clear p2
                try clear q132
                try clear q21
                obtain ⟨x37_2, rfl, HA, HK2, HO_7, HO_26, BK126, HR136, HB⟩ := hrel
                cases gk with
                | zero => exact absurd HA.out (by simp [impl_Graph_hasKind.l1])
                | succ k2 =>
                 have H := HA.out
                 clear HA
                 simp only [impl_Graph_hasKind.l1] at H
                 by_cases c22 : x37_2 < (y133.length : Int)
                 · rw [if_pos c22] at H
                   have c22b0 := decide_eq_true c22
                   clear c22
                   by_cases c23 : 0 ≤ x37_2
                   · rw [if_pos c23] at H
                     have c23b0 := decide_eq_true c23
                     clear c23
                     by_cases c24 : x37_2 < (y133.length : Int)
                     · rw [if_pos c24] at H
                       have c24b0 := decide_eq_true c24
                       clear c24
                       replace H := Option.bind_eq_some_iff.mp H
                       obtain ⟨t138, A250, H⟩ := H
                       have A25 := Aside0.mk A250
                       clear A250
                       by_cases c26 : t138 = true
                       · subst c26
                         rw [if_pos rfl] at H
                         have H' := Aside0.mk H
                         clear H
                         have p137 : 0 ≤ (x37_2 : Int) := of_decide_eq_true zA
                         have q137 : x37_2 < (y133.length : Int) := of_decide_eq_true zA
                         obtain ⟨ad137, e137, hx137_0⟩ := Kd.at_int HR136.out x37_2 p137 q137
                         obtain rfl : ad132 = ad137 := (by injection e137)
                         (try replace hx137_0 := (HB.out.cell (World.block_lt_of_cell? w _ hx137_0)).trans hx137_0)
                         replace p137 := eq_true p137
                         replace q137 := eq_true q137
                         have hcz27_0 := zy BK126 0
                         have hcz27_1 := zy BK126 1
                         have hfz27_0 := blk_frozen BK126.out 0
                         have hfz27_1 := blk_frozen BK126.out 1
                         go_wp2_with (first | ((with_reducible refine gate_callee (f := 210) rfl ?_); refine zc 44 Try.func210 #[.agg #[.int .i64 a0_0, .slice A0_1 l0_1.length c0_1], .int .i64 (rd t129 x28_1), .int .i64 (rd y133 x37_2)] ?_; (with_reducible refine (impl_Graph_has.calls k2 a0_0 _ _ l0_1 (rd t129 x28_1) (rd y133 x37_2) true _ ?side1 ?side2 A25.out).mono ?_); (case side1 => exact zC (Kd.C_below HR0_1.out HB.out)); (case side2 => exact HC0_1.out); rintro e w28 ⟨rfl, hb⟩; refine ⟨_, rfl, ?_⟩; replace HO_7 := zM (Kd.R_below (zR HO_7.out) hb); replace HO_26 := zM (Kd.R_below (zR HO_26.out) hb); replace BK126 := zM (blk_below (g := gb126) (o := .cells #[.int .i64 a0_0, .slice A0_1 l0_1.length c0_1] 43 (0, 0)) (zK BK126.out) hb); replace HR136 := zM (Kd.C_below (by repeat (first | (with_reducible exact HR136.out) | (with_reducible refine Kd.C_alloc ?_ _) | (with_reducible refine Kd.C_drewN ?_ _) | (with_reducible refine Kd.C_drew ?_) | exact HR136.out)) hb); replace HB := zM (below_step zB hb); (try clear hb); (try clear hb2); (try clear hk); (try clear hi)))
                         go_roundg k2
                         case measure => have := HK1.out; have := HK2.out; omega
                         case rel => exact ⟨(wrap64 (x37_2 + 1)), (by first | rfl | (simp; done) | (simp [*]; done)), H', ⟨by have := HK1.out; have := HK2.out; omega⟩, ⟨zR HO_7.out⟩, ⟨zR HO_26.out⟩, ⟨zK BK126.out⟩, ⟨zC HR136.out⟩, ⟨zB⟩⟩
                       · replace c26 := Bool.eq_false_iff.mpr c26
                         subst c26
                         have H1 : (some false) = some r := by rw [if_neg (show ¬ (false = true) by decide)] at H; exact H
                         clear H
                         have H := H1
                         clear H1
                         obtain rfl := Option.some.inj H
                         have p137 : 0 ≤ (x37_2 : Int) := of_decide_eq_true zA
                         have q137 : x37_2 < (y133.length : Int) := of_decide_eq_true zA
                         obtain ⟨ad137, e137, hx137_0⟩ := Kd.at_int HR136.out x37_2 p137 q137
                         obtain rfl : ad132 = ad137 := (by injection e137)
                         (try replace hx137_0 := (HB.out.cell (World.block_lt_of_cell? w _ hx137_0)).trans hx137_0)
                         replace p137 := eq_true p137
                         replace q137 := eq_true q137
                         have hcz29_0 := zy BK126 0
                         have hcz29_1 := zy BK126 1
                         have hfz29_0 := blk_frozen BK126.out 0
                         have hfz29_1 := blk_frozen BK126.out 1
                         go_wp2_with (first | ((with_reducible refine gate_callee (f := 210) rfl ?_); refine zc 44 Try.func210 #[.agg #[.int .i64 a0_0, .slice A0_1 l0_1.length c0_1], .int .i64 (rd t129 x28_1), .int .i64 (rd y133 x37_2)] ?_; (with_reducible refine (impl_Graph_has.calls k2 a0_0 _ _ l0_1 (rd t129 x28_1) (rd y133 x37_2) false _ ?side1 ?side2 A25.out).mono ?_); (case side1 => exact zC (Kd.C_below HR0_1.out HB.out)); (case side2 => exact HC0_1.out); rintro e w30 ⟨rfl, hb⟩; refine ⟨_, rfl, ?_⟩; replace HO_7 := zM (Kd.R_below (zR HO_7.out) hb); replace HO_26 := zM (Kd.R_below (zR HO_26.out) hb); replace BK126 := zM (blk_below (g := gb126) (o := .cells #[.int .i64 a0_0, .slice A0_1 l0_1.length c0_1] 43 (0, 0)) (zK BK126.out) hb); replace HR136 := zM (Kd.C_below (by repeat (first | (with_reducible exact HR136.out) | (with_reducible refine Kd.C_alloc ?_ _) | (with_reducible refine Kd.C_drewN ?_ _) | (with_reducible refine Kd.C_drew ?_) | exact HR136.out)) hb); replace HB := zM (below_step zB hb); (try clear hb); (try clear hb2); (try clear hk); (try clear hi)))
                         go_ret
                         exact ⟨by first | rfl | (simp [errW_none, errW_some] <;> rfl) | (simp [*, errW_none, errW_some] <;> rfl), zB⟩
                     · rw [if_neg c24] at H
                       exact absurd H (by simp)
                   · rw [if_neg c23] at H
                     exact absurd H (by simp)
                 · rw [if_neg c22] at H
                   have c22b0 : decide (x37_2 < (y133.length : Int)) = false := decide_eq_false c22
                   clear c22
                   have H' := Aside0.mk H
                   clear H
                   go_wp2
                   go_roundg k2
                   case measure => have := HK1.out; have := HK2.out; omega
                   case rel => exact ⟨(wrap64 (x28_1 + 1)), (by first | rfl | (simp; done) | (simp [*]; done)), H', ⟨by have := HK1.out; have := HK2.out; omega⟩, ⟨zR HO_7.out⟩, ⟨zR HO_26.out⟩, ⟨zK BK126.out⟩, ⟨zB⟩⟩
             · rw [if_neg c20] at H
               exact absurd H (by simp)
           · rw [if_neg c18] at H
             exact absurd H (by simp)
         · rw [if_neg c17] at H
           exact absurd H (by simp)
       · rw [if_neg c16] at H
         have c16b0 : decide (x28_1 < (t129.length : Int)) = false := decide_eq_false c16
         clear c16
         obtain rfl := Option.some.inj H
         go_wp2
         go_ret
         exact ⟨by first | rfl | (simp [errW_none, errW_some] <;> rfl) | (simp [*, errW_none, errW_some] <;> rfl), zB⟩
   · rw [if_neg c11] at H
     have c11b0 : (a1 == 2) = false := beq_eq_false_iff_ne.mpr c11
     have c11b1 : (a1 != 2) = true := bne_iff_ne.mpr c11
     have H' := Aside0.mk H
     clear H
     go_enter Try.func172, Try.ntmps172
     go_wp2_with (first | ((with_reducible refine gate_dst (N := 3) rfl ?_); refine zb (w := w) 3 #[.int .i64 a0_0, .slice A0_1 l0_1.length c0_1] 43 zB ?_; clear HB; intro gb126 w31 HB BK126 GW126; have GE126 := GW126; have hcz32_0 := zy BK126 0; have hcz32_1 := zy BK126 1; have hfz32_0 := blk_frozen BK126.out 0; have hfz32_1 := blk_frozen BK126.out 1))
     go_loopg [50] k (fun kq v50 w' => ∃ (x50_1 : Int), v50 = .int .i64 x50_1 ∧ Aside0 (impl_Graph_hasKind.l2 kq a2 a0_0 x50_1 a0_0 l0_1 = some r) ∧ Aside0 (kq ≤ k) ∧ Aside0 (w'.heap[gb126]? = some (.cells #[.int .i64 a0_0, (.slice A0_1 l0_1.length c0_1)] 43 (0, 0))) ∧ Aside0 (Below w.heap.size w w'))
     case atStart => exact ⟨(0), (by first | rfl | (simp; done) | (simp [*]; done)), H', ⟨Nat.le_refl _⟩, ⟨zK BK126.out⟩, ⟨zB⟩⟩
     case round =>
      clear H'
      try clear c1
      try clear p1
      try clear q1
      try clear hx1
      try clear c2
      try clear p2
      try clear q2
      try clear c4
      try clear c4b0
      try clear c4b1
      try clear p6
      try clear c11
      try clear c11b0
      try clear c11b1
      try clear p13
      try clear q13
      try clear hx13
      try clear c16
      try clear c16b0
      try clear c17
      try clear c17b0
      try clear c18
      try clear c18b0
      try clear c19
      try clear c19b0
      try clear c20
      try clear c20b0
      try clear c20b1
      try clear c21
      try clear q21
      try clear c22
      try clear c22b0
      try clear c23
      try clear c23b0
      try clear c24
      try clear c24b0
      try clear c26
      try clear hcz27_0
      try clear hcz27_1
      try clear hcz29_0
      try clear hcz29_1
      try clear hcz32_0
      try clear hcz32_1
      try clear hfz27_0
      try clear hfz27_1
      try clear hfz29_0
      try clear hfz29_1
      try clear hfz32_0
      try clear hfz32_1
      try clear hx132_0
      try clear hx137_0
      try clear p1
      try clear p13
      try clear p132
      try clear p137
      try clear p2
      try clear q1
      try clear q13
      try clear q132
      try clear q137
      try clear q2
      try clear q21
      obtain ⟨x50_1, rfl, HA, HK1, BK126, HB⟩ := hrel
      cases gk with
      | zero => exact absurd HA.out (by simp [impl_Graph_hasKind.l2])
      | succ k1 =>
       have H := HA.out
       clear HA
       simp only [impl_Graph_hasKind.l2] at H
       by_cases c33 : x50_1 < a0_0
       · rw [if_pos c33] at H
         have c33b0 := decide_eq_true c33
         clear c33
         replace H := Option.bind_eq_some_iff.mp H
         obtain ⟨t139, A340, H⟩ := H
         have A34 := Aside0.mk A340
         clear A340
         by_cases c35 : t139 = true
         · subst c35
           rw [if_pos rfl] at H
           have H' := Aside0.mk H
           clear H
           go_wp2_with (first | ((with_reducible refine gate_callee (f := 211) rfl ?_); refine zc 55 Try.func211 #[.int .u64 a2, .int .i64 x50_1] ?_; (with_reducible refine (impl_bag_has.calls a2 x50_1 true _ A34.out).mono ?_); rintro e w' ⟨rfl, ⟨nd, rfl⟩⟩; refine ⟨_, rfl, ?_⟩))
           go_roundg k1
           case measure => have := HK1.out; omega
           case rel => exact ⟨(wrap64 (x50_1 + 1)), (by first | rfl | (simp; done) | (simp [*]; done)), H', ⟨by have := HK1.out; omega⟩, ⟨zK BK126.out⟩, ⟨zB⟩⟩
         · replace c35 := Bool.eq_false_iff.mpr c35
           subst c35
           have H1 : ((impl_Graph_neighbors.f k1 a0_0 l0_1 x50_1).bind fun t140 => ((impl_bagOf.f k1 t140).bind fun t143 => (if (Go.bits .and .u64 t143 a2) = 0 then (some false) else (impl_Graph_hasKind.l2 k1 a2 a0_0 (wrap64 (x50_1 + 1)) a0_0 l0_1)))) = some r := by rw [if_neg (show ¬ (false = true) by decide)] at H; exact H
           clear H
           have H := H1
           clear H1
           replace H := Option.bind_eq_some_iff.mp H
           obtain ⟨t140, A360, H⟩ := H
           have A36 := Aside0.mk A360
           clear A360
           replace H := Option.bind_eq_some_iff.mp H
           obtain ⟨t143, A370, H⟩ := H
           have A37 := Aside0.mk A370
           clear A370
           by_cases c38 : (Go.bits .and .u64 t143 a2) = 0
           · rw [if_pos c38] at H
             have c38b0 : ((Go.bits .and .u64 t143 a2) == 0) = true := beq_iff_eq.mpr c38
             have c38b1 : ((Go.bits .and .u64 t143 a2) != 0) = false := bne_eq_false_iff_eq.mpr c38
             clear c38
             obtain rfl := Option.some.inj H
             go_wp2_with (first | ((with_reducible refine gate_callee (f := 211) rfl ?_); refine zc 55 Try.func211 #[.int .u64 a2, .int .i64 x50_1] ?_; (with_reducible refine (impl_bag_has.calls a2 x50_1 false _ A34.out).mono ?_); rintro e w' ⟨rfl, ⟨nd, rfl⟩⟩; refine ⟨_, rfl, ?_⟩; have hcz39_0 := zy BK126 0; have hcz39_1 := zy BK126 1; have hfz39_0 := blk_frozen BK126.out 0; have hfz39_1 := blk_frozen BK126.out 1) | (go_at_call 213; (with_reducible refine (impl_Graph_neighbors.calls k1 a0_0 _ _ l0_1 x50_1 t140 _ ?side1 ?side2 A36.out).mono ?_); (case side1 => exact zC (Kd.C_below HR0_1.out zB)); (case side2 => exact HC0_1.out); rintro e w40 ⟨v141, rfl, ho0, hb⟩; have HO142 := zM (Kd.R_lower ho0 (below_size zB)); replace BK126 := zM (blk_below (g := gb126) (o := .cells #[.int .i64 a0_0, .slice A0_1 l0_1.length c0_1] 43 (0, 0)) (zK BK126.out) hb); replace HB := zM (below_step zB hb); (try clear hb); (try clear hb2); (try clear hk); (try clear hi); (try clear ho0); obtain ⟨Ao41, co41, eo41⟩ := Kd.R_slice HO142.out; subst eo41) | (go_at_call 212; (with_reducible refine (impl_bagOf.calls k1 _ _ t140 t143 _ ?side1 ?side2 A37.out).mono ?_); (case side1 => exact zC (Kd.R_reads' HO142.out).2.2); (case side2 => exact (Kd.R_reads' HO142.out).2.1); rintro e w' ⟨rfl, ⟨nd, rfl⟩⟩))
             go_ret
             exact ⟨by first | rfl | (simp [errW_none, errW_some] <;> rfl) | (simp [*, errW_none, errW_some] <;> rfl), zB⟩
           · rw [if_neg c38] at H
             have c38b0 : ((Go.bits .and .u64 t143 a2) == 0) = false := beq_eq_false_iff_ne.mpr c38
             have c38b1 : ((Go.bits .and .u64 t143 a2) != 0) = true := bne_iff_ne.mpr c38
             have H' := Aside0.mk H
             clear H
             go_wp2_with (first | ((with_reducible refine gate_callee (f := 211) rfl ?_); refine zc 55 Try.func211 #[.int .u64 a2, .int .i64 x50_1] ?_; (with_reducible refine (impl_bag_has.calls a2 x50_1 false _ A34.out).mono ?_); rintro e w' ⟨rfl, ⟨nd, rfl⟩⟩; refine ⟨_, rfl, ?_⟩; have hcz42_0 := zy BK126 0; have hcz42_1 := zy BK126 1; have hfz42_0 := blk_frozen BK126.out 0; have hfz42_1 := blk_frozen BK126.out 1) | (go_at_call 213; (with_reducible refine (impl_Graph_neighbors.calls k1 a0_0 _ _ l0_1 x50_1 t140 _ ?side1 ?side2 A36.out).mono ?_); (case side1 => exact zC (Kd.C_below HR0_1.out zB)); (case side2 => exact HC0_1.out); rintro e w43 ⟨v141, rfl, ho0, hb⟩; have HO142 := zM (Kd.R_lower ho0 (below_size zB)); replace BK126 := zM (blk_below (g := gb126) (o := .cells #[.int .i64 a0_0, .slice A0_1 l0_1.length c0_1] 43 (0, 0)) (zK BK126.out) hb); replace HB := zM (below_step zB hb); (try clear hb); (try clear hb2); (try clear hk); (try clear hi); (try clear ho0); obtain ⟨Ao44, co44, eo44⟩ := Kd.R_slice HO142.out; subst eo44) | (go_at_call 212; (with_reducible refine (impl_bagOf.calls k1 _ _ t140 t143 _ ?side1 ?side2 A37.out).mono ?_); (case side1 => exact zC (Kd.R_reads' HO142.out).2.2); (case side2 => exact (Kd.R_reads' HO142.out).2.1); rintro e w' ⟨rfl, ⟨nd, rfl⟩⟩))
             go_roundg k1
             case measure => have := HK1.out; omega
             case rel => exact ⟨(wrap64 (x50_1 + 1)), (by first | rfl | (simp; done) | (simp [*]; done)), H', ⟨by have := HK1.out; omega⟩, ⟨zK BK126.out⟩, ⟨zB⟩⟩
       · rw [if_neg c33] at H
         have c33b0 : decide (x50_1 < a0_0) = false := decide_eq_false c33
         clear c33
         obtain rfl := Option.some.inj H
         go_wp2
         go_ret
         exact ⟨by first | rfl | (simp [errW_none, errW_some] <;> rfl) | (simp [*, errW_none, errW_some] <;> rfl), zB⟩

-- NOT PRINTED: function 263 (impl_bag_size)

end Go.Proofs.Ythnojbafclglpaa.P
namespace Go.Proofs.Ythnojbafclglpaa.P
open Go.RowKit Go.Proofs.YthnojbafclglpaaW.PrintWords Go.Proofs.YthnojbafclglpaaW.PrintLast Go.Proofs.YthnojbafclglpaaW.PrintMore
set_option linter.unusedVariables false

def hasI (b y : Int) : Bool := Go.bits .and .u64 (shr .u64 b y) 1 == 1
def addI (b x : Int) : Int := Go.bits .or .u64 b (shl .u64 1 x)
theorem addI_fin : ∀ b : Fin 256, ∀ x : Fin 8, (0 ≤ addI b x ∧ addI b x < 256) ∧ ∀ y : Fin 8, hasI (addI b x) y = (hasI b y || decide (y = x)) := by decide +kernel
theorem hasI_zero : ∀ y : Fin 8, hasI 0 y = false := by decide +kernel
theorem fin_of {n : Nat} {b : Int} (h : 0 ≤ b) (h2 : b < (n : Int)) : ∃ i : Fin n, b = ((i.val : Nat) : Int) := ⟨⟨b.toNat, by omega⟩, by show b = ((b.toNat : Nat) : Int); omega⟩
theorem addI_at {b x : Int} (hb : 0 ≤ b ∧ b < 256) (hx : 0 ≤ x ∧ x < 8) : (0 ≤ addI b x ∧ addI b x < 256) ∧ ∀ y, 0 ≤ y → y < 8 → hasI (addI b x) y = (hasI b y || decide (y = x)) := by
  obtain ⟨i, rfl⟩ := fin_of (n := 256) hb.1 hb.2
  obtain ⟨j, rfl⟩ := fin_of (n := 8) hx.1 hx.2
  have h := addI_fin i j
  refine ⟨h.1, fun y h0 h8 => ?_⟩
  obtain ⟨q, rfl⟩ := fin_of (n := 8) h0 h8
  rw [h.2 q]
  congr 1
  rw [decide_eq_decide]
  omega
theorem hasI_nil {y : Int} (h0 : 0 ≤ y) (h8 : y < 8) : hasI 0 y = false := by
  obtain ⟨q, rfl⟩ := fin_of (n := 8) h0 h8
  exact hasI_zero q
theorem bag_has_at {b y : Int} (h0 : 0 ≤ y) : impl_bag_has.f b y = some (hasI b y) := by
  unfold impl_bag_has.f
  rw [if_pos h0]
  rfl
/-- What a set's bag is. -/
def bagI (b : Int) (l : List Int) : Int := l.foldl addI b
theorem bagI_at (l : List Int) : ∀ (b : Int), 0 ≤ b ∧ b < 256 → (∀ x ∈ l, 0 ≤ x ∧ x < 8) → (0 ≤ bagI b l ∧ bagI b l < 256) ∧ ∀ y, 0 ≤ y → y < 8 → hasI (bagI b l) y = (hasI b y || decide (y ∈ l)) := by
  induction l with
  | nil => intro b hb _; exact ⟨hb, fun y _ _ => by simp [bagI]⟩
  | cons x t ih =>
    intro b hb hx
    have h1 := addI_at hb (hx x (List.mem_cons_self ..))
    have h2 := ih (addI b x) h1.1 (fun z hz => hx z (List.mem_cons_of_mem _ hz))
    refine ⟨h2.1, fun y h0 h8 => ?_⟩
    have := h2.2 y h0 h8
    rw [show bagI b (x :: t) = bagI (addI b x) t from rfl, this, h1.2 y h0 h8, Bool.or_assoc]
    congr 1
    rw [Bool.eq_iff_iff]
    simp only [Bool.or_eq_true, decide_eq_true_eq, List.mem_cons]
theorem bagOf_loop (l : List Int) (hl : l.length ≤ 1048576) (hx : ∀ x ∈ l, 0 ≤ x ∧ x < 8) (d : Nat) : ∀ (b : Int) (m : Nat), l.length - m = d → m ≤ l.length →
    Ev (fun k => impl_bagOf.l0 k b l (l.length : Int) (m : Int)) (bagI b (l.drop m)) := by
  induction d with
  | zero =>
    intro b m h0 h1
    refine Ev.step (fun k => by rw [impl_bagOf.l0]) (Ev.neg (by omega) ?_)
    rw [List.drop_eq_nil_of_le (by omega)]
    exact Ev.now _
  | succ d ih =>
    intro b m h0 h1
    have hm : m < l.length := by omega
    have := hx l[m] (List.getElem_mem hm)
    refine Ev.step (fun k => by rw [impl_bagOf.l0]) (Ev.pos (by omega) (Ev.pos (by omega) (Ev.pos (by omega) ?_)))
    rw [rd_at l m hm, List.drop_eq_getElem_cons hm, wrap_up hm (by omega)]
    exact Ev.pos this.1 (ih _ (m + 1) (by omega) (by omega))
theorem bagOf_ev (l : List Int) (hl : l.length ≤ 1048576) (hx : ∀ x ∈ l, 0 ≤ x ∧ x < 8) : Ev (fun k => impl_bagOf.f k l) (bagI 0 l) :=
  bagOf_loop l hl hx l.length 0 0 (by omega) (Nat.zero_le _)
end Go.Proofs.Ythnojbafclglpaa.P
