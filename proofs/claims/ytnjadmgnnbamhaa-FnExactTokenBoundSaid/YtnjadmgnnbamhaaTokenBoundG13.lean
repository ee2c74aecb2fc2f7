-- Written by a program of this session (the kit's print, turned: wip/print/patch.py) out of the translation. Not trusted: Lean checks it.
import Derived.Test.YtnjadmgnnbamhaaTokenBoundG5
import Derived.Test.YtnjadmgnnbamhaaTokenBoundG12
import Derived.Test.YtnjadmgnnbamhaaTokenBoundG9
import Derived.Shelf.Bits.Mul64
import Derived.Ground.Names2Prog
import Derived.Shelf.Slices.SearchI
import Derived.Test.YtnjadmgnnbamhaaProg
import Derived.Handy
namespace Go.Proofs.Ytnjadmgnnbamhaa.P
open Go.RowKit Go.Proofs.YtnjadmgnnbamhaaW.PrintWords Go.Proofs.YtnjadmgnnbamhaaW.PrintLast Go.Proofs.YtnjadmgnnbamhaaW.PrintMore
attribute [local go_sem] max2_int min2_int max_two min_two max_three min_three max_four min_four   -- for this text's walks alone
set_option linter.unusedVariables false
set_option linter.unusedSimpArgs false

/-! ### impl_bag_has: function 49 -/
def impl_bag_has.f (a0 : Int) (a1 : Int) : Option (Bool) := if 0 ≤ a1 then (some ((Go.bits .and .u64 (shr .u64 a0 a1) 1) == 1)) else (none)
set_option maxHeartbeats 8000000 in
set_option maxRecDepth 100000 in
theorem impl_bag_has.calls (a0 : Int) (a1 : Int) (r : Bool) (w : World) (h : impl_bag_has.f a0 a1 = some r) :
 Calls Try.prog 49 #[.int .u64 a0, .int .i64 a1] w fun e w' => e = .returned (.bool r) ∧ Drawn0 w w' := by
 have H : (if 0 ≤ a1 then (some ((Go.bits .and .u64 (shr .u64 a0 a1) 1) == 1)) else (none)) = some r := h
 clear h
 by_cases c3 : 0 ≤ a1
 · rw [if_pos c3] at H
   have c3b0 := eq_true c3
   have c3b1 : decide (0 ≤ a1) = true := decide_eq_true c3
   clear c3
   obtain ⟨ji4, hji4⟩ : ∃ j_ : Int, (shr .u64 a0 a1) = j_ := ⟨_, rfl⟩
   replace H : (some ((Go.bits .and .u64 (ji4) 1) == 1)) = some r := by first | (rw [hji4] at H; exact H) | (simp only [hji4] at H ⊢; exact H)
   have hji4_ : (a0 / 2 ^ min a1.toNat 64) = ji4 := hji4
   have hji4z : a1 ≤ 64 → (a0 / 2 ^ a1.toNat) = ji4 := shr_small hji4
   obtain rfl := Option.some.inj H
   go_enter Try.func49, Try.ntmps49
   go_wp2
   go_ret
   exact ⟨by first | rfl | (simp; done) | (simp only [← hji4] <;> (first | rfl | simp)) | (simp [*]; done), by repeat (first | exact Drawn0.refl _ | apply Drawn0.step)⟩
 · rw [if_neg c3] at H
   exact absurd H (by simp)

end Go.Proofs.Ytnjadmgnnbamhaa.P
namespace Go.Proofs.Ytnjadmgnnbamhaa.P
open Go.RowKit Go.Proofs.YtnjadmgnnbamhaaW.PrintWords Go.Proofs.YtnjadmgnnbamhaaW.PrintLast Go.Proofs.YtnjadmgnnbamhaaW.PrintMore
set_option linter.unusedVariables false

def hasI (b y : Int) : Bool := Go.bits .and .u64 (shr .u64 b y) 1 == 1
def addI (b x : Int) : Int := Go.bits .or .u64 b (shl .u64 1 x)
theorem addI_fin : ∀ b : Fin 256, ∀ x : Fin 8, (0 ≤ addI b x ∧ addI b x < 256) ∧ ∀ y : Fin 8, hasI (addI b x) y = (hasI b y || decide (y = x)) := by decide +kernel
theorem hasI_zero : ∀ y : Fin 8, hasI 0 y = false := by decide +kernel
theorem fin_of {n : Nat} {b : Int} (h : 0 ≤ b) (h2 : b < (n : Int)) : ∃ i : Fin n, b = ((i.val : Nat) : Int) := ⟨⟨b.toNat, by omega⟩, by show b = ((b.toNat : Nat) : Int); omega⟩
theorem addI_at {b x : Int} (hb : 0 ≤ b ∧ b < 256) (hx : 0 ≤ x ∧ x < 8) : (0 ≤ addI b x ∧ addI b x < 256) ∧ ∀ y, 0 ≤ y → y < 8 → hasI (addI b x) y = (hasI b y || decide (y = x)) := by
  obtain ⟨i, rfl⟩ := fin_of (n := 256) hb.1 hb.2
  obtain ⟨j, rfl⟩ := fin_of (n := 8) hx.1 hx.2
  have h := addI_fin i j
  refine ⟨h.1, fun y h0 h8 => ?_⟩
  obtain ⟨q, rfl⟩ := fin_of (n := 8) h0 h8
  rw [h.2 q]
  congr 1
  rw [decide_eq_decide]
  omega
theorem hasI_nil {y : Int} (h0 : 0 ≤ y) (h8 : y < 8) : hasI 0 y = false := by
  obtain ⟨q, rfl⟩ := fin_of (n := 8) h0 h8
  exact hasI_zero q
theorem bag_has_at {b y : Int} (h0 : 0 ≤ y) : impl_bag_has.f b y = some (hasI b y) := by
  unfold impl_bag_has.f
  rw [if_pos h0]
  rfl
/-- What a set's bag is. -/
def bagI (b : Int) (l : List Int) : Int := l.foldl addI b
theorem bagI_at (l : List Int) : ∀ (b : Int), 0 ≤ b ∧ b < 256 → (∀ x ∈ l, 0 ≤ x ∧ x < 8) → (0 ≤ bagI b l ∧ bagI b l < 256) ∧ ∀ y, 0 ≤ y → y < 8 → hasI (bagI b l) y = (hasI b y || decide (y ∈ l)) := by
  induction l with
  | nil => intro b hb _; exact ⟨hb, fun y _ _ => by simp [bagI]⟩
  | cons x t ih =>
    intro b hb hx
    have h1 := addI_at hb (hx x (List.mem_cons_self ..))
    have h2 := ih (addI b x) h1.1 (fun z hz => hx z (List.mem_cons_of_mem _ hz))
    refine ⟨h2.1, fun y h0 h8 => ?_⟩
    have := h2.2 y h0 h8
    rw [show bagI b (x :: t) = bagI (addI b x) t from rfl, this, h1.2 y h0 h8, Bool.or_assoc]
    congr 1
    rw [Bool.eq_iff_iff]
    simp only [Bool.or_eq_true, decide_eq_true_eq, List.mem_cons]
theorem bagOf_loop (l : List Int) (hl : l.length ≤ 1048576) (hx : ∀ x ∈ l, 0 ≤ x ∧ x < 8) (d : Nat) : ∀ (b : Int) (m : Nat), l.length - m = d → m ≤ l.length →
    Ev (fun k => impl_bagOf.l0 k b l (l.length : Int) (m : Int)) (bagI b (l.drop m)) := by
  induction d with
  | zero =>
    intro b m h0 h1
    refine Ev.step (fun k => by rw [impl_bagOf.l0]) (Ev.neg (by omega) ?_)
    rw [List.drop_eq_nil_of_le (by omega)]
    exact Ev.now _
  | succ d ih =>
    intro b m h0 h1
    have hm : m < l.length := by omega
    have := hx l[m] (List.getElem_mem hm)
    refine Ev.step (fun k => by rw [impl_bagOf.l0]) (Ev.pos (by omega) (Ev.pos (by omega) (Ev.pos (by omega) ?_)))
    rw [rd_at l m hm, List.drop_eq_getElem_cons hm, wrap_up hm (by omega)]
    exact Ev.pos this.1 (ih _ (m + 1) (by omega) (by omega))
theorem bagOf_ev (l : List Int) (hl : l.length ≤ 1048576) (hx : ∀ x ∈ l, 0 ≤ x ∧ x < 8) : Ev (fun k => impl_bagOf.f k l) (bagI 0 l) :=
  bagOf_loop l hl hx l.length 0 0 (by omega) (Nat.zero_le _)
end Go.Proofs.Ytnjadmgnnbamhaa.P
namespace Go.Proofs.Ytnjadmgnnbamhaa.P
open Go.RowKit Go.Proofs.YtnjadmgnnbamhaaW.PrintWords Go.Proofs.YtnjadmgnnbamhaaW.PrintLast Go.Proofs.YtnjadmgnnbamhaaW.PrintMore
set_option linter.unusedVariables false
set_option linter.unusedSimpArgs false

def bothB (a1 : Int) (s : S50) : Bool := (impl_bag_has.f a1 s.f0).getD false && (impl_bag_has.f a1 s.f1).getD false
def impl_Graph_isFree.f (a0_0 : Int) (l0_1 : List S50) (a1 : Int) : Option Bool :=
  if l0_1.all (fun s => (impl_bag_has.f a1 s.f0).isSome && (impl_bag_has.f a1 s.f1).isSome) then some (!(l0_1.any (bothB a1))) else none
set_option maxHeartbeats 1000000 in
theorem isFree1_any (gb : Nat) (a1 : Int) (s : S50) (x y : Bool) (hx : impl_bag_has.f a1 s.f0 = some x) (hy : impl_bag_has.f a1 s.f1 = some y) (W : World) (hl : W.cell? ⟨gb, 0, none⟩ = some (.int .u64 a1)) :
    Calls Try.prog 48 (#[.agg #[.int .i64 s.f0, .int .i64 s.f1]] ++ #[.pointer (some ⟨gb, 0, none⟩)]) W fun e w' => e = .returned (.bool (x && y)) ∧ Below W.heap.size W w' := by
  have HX := Aside0.mk hx
  have HY := Aside0.mk hy
  clear hx hy
  show Calls Try.prog 48 #[.agg #[.int .i64 s.f0, .int .i64 s.f1], .pointer (some ⟨gb, 0, none⟩)] W _
  have hl2 := fun o : Obj => pw_cell_below (below_alloc (Below.refl W.heap.size W) o) hl
  go_enter Try.func48, Try.ntmps48
  go_wp2_with fail
  go_at_call 49
  refine (impl_bag_has.calls _ _ x _ HX.out).mono ?_
  rintro e w' ⟨rfl, ⟨n1, rfl⟩⟩
  cases x with
  | true =>
    go_wp2_with fail
    go_at_call 49
    refine (impl_bag_has.calls _ _ y _ HY.out).mono ?_
    rintro e w' ⟨rfl, ⟨n2, rfl⟩⟩
    go_wp2
    go_ret
    exact ⟨by first | rfl | (simp; done), by repeat (first | exact Below.refl _ _ | apply below_alloc | apply pw_below_drewN | apply below_drew1)⟩
  | false =>
    go_wp2
    go_ret
    exact ⟨by first | rfl | (simp; done), by repeat (first | exact Below.refl _ _ | apply below_alloc | apply pw_below_drewN | apply below_drew1)⟩
set_option maxHeartbeats 1000000 in
theorem impl_Graph_isFree.calls (a0_0 : Int) (A0_1 : Option Addr) (c0_1 : Nat) (l0_1 : List (S50)) (a1 : Int) (r : Bool) (w : World) (hr0_1 : Kd.C k50 w A0_1 l0_1.length l0_1) (hc0_1 : l0_1.length ≤ c0_1) (h : impl_Graph_isFree.f a0_0 l0_1 a1 = some r) :
    Calls Try.prog 40 #[.agg #[.int .i64 a0_0, .slice A0_1 l0_1.length c0_1], .int .u64 a1] w fun e w' => e = .returned (.bool r) ∧ Below w.heap.size w w' := by
  unfold impl_Graph_isFree.f at h
  by_cases hall : l0_1.all (fun s => (impl_bag_has.f a1 s.f0).isSome && (impl_bag_has.f a1 s.f1).isSome) = true
  case neg => rw [if_neg hall] at h; cases h
  rw [if_pos hall] at h
  obtain rfl := Option.some.inj h
  have HP := fun (W : World) (gb : Nat) (hl : W.cell? ⟨gb, 0, none⟩ = some (.int .u64 a1)) =>
    Aside0.mk (show PredB 48 #[.pointer (some ⟨gb, 0, none⟩)] (fun x : S50 => Value.agg #[.int .i64 x.f0, .int .i64 x.f1]) (bothB a1) l0_1 W from fun W' x hx hb => by
      have hs := List.all_eq_true.1 hall x hx
      rw [Bool.and_eq_true] at hs
      obtain ⟨b1, h1⟩ := Option.isSome_iff_exists.1 hs.1
      obtain ⟨b2, h2⟩ := Option.isSome_iff_exists.1 hs.2
      have := isFree1_any gb a1 x b1 b2 h1 h2 W' (pw_cell_below hb hl)
      unfold bothB
      rw [h1, h2]
      exact this)
  have HR0 := Aside0.mk hr0_1
  clear hr0_1 hall h
  generalize hg : l0_1.any (bothB a1) = b
  have HG := Aside0.mk hg
  clear hg
  have HB1 := Aside0.mk (below_alloc (below_alloc (Below.refl w.heap.size w) (.cells #[.int .i64 a0_0, .slice A0_1 l0_1.length c0_1] 29)) (.cells #[.int .u64 a1] 44))
  go_enter Try.func40, Try.ntmps40
  go_wp2_with fail
  go_at_call 47
  refine (cont_prs _ _ (enters_of Try.func48 (by kernel_rfl) rfl) _ A0_1 c0_1 l0_1 _ (Kd.C_below HR0.out HB1.out) (HP _ _ (by go_simp)).out).mono ?_
  rintro e w' ⟨rfl, hb⟩
  rw [HG.out]
  have HB := Aside0.mk (below_step HB1.out hb)
  clear hb
  go_wp2
  go_ret
  exact ⟨by first | rfl | (simp; done), HB.out⟩
end Go.Proofs.Ytnjadmgnnbamhaa.P
namespace Go.Proofs
open Go.Shelf
def Try.lays212_ren : Go.Shelf.Ren := ⟨fun | 212 => 42 | 263 => 52 | 264 => 53 | n => n, fun | 46 => 43 | 51 => 72 | 146 => 73 | 53 => 75 | 148 => 76 | n => n, fun | n => n⟩
theorem Try.lays212 : Go.Proofs.Lays.n212 Try.prog Try.lays212_ren := {
  mixed := by kernel_rfl
  f212 := Try.func42.trans (congrArg some (by kernel_rfl))
  f263 := Try.func52.trans (congrArg some (by kernel_rfl))
  f264 := Try.func53.trans (congrArg some (by kernel_rfl))
  t46 := Try.underlying43
  a46 := Try.isAgg43
  z46 := Try.sizeOf43
  v46 := Try.zeroValue43
  t51 := Try.underlying72
  a51 := Try.isAgg72
  z51 := Try.sizeOf72
  v51 := Try.zeroValue72
  t53 := Try.underlying75
  a53 := Try.isAgg75
  z53 := Try.sizeOf75
  v53 := Try.zeroValue75
  t146 := Try.underlying73
  a146 := Try.isAgg73
  z146 := Try.sizeOf73
  v146 := Try.zeroValue73
  t148 := Try.underlying76
  a148 := Try.isAgg76
  z148 := Try.sizeOf76
  v148 := Try.zeroValue76 }
open Go.RowKit Go.Lib in
/-- math/bits.Mul: "Mul returns the full-width product of x and y": on a machine of 64 bits: Mul64's. (LAID: no walk: one application.) -/
theorem Try.bits_Mul (x y : Nat) (hx : x < 18446744073709551616) (hy : y < 18446744073709551616) (w : World) :
    Calls Try.prog 42 #[.int .u64 x, .int .u64 y] w fun e w' => e = .returned (.tuple #[.int .u64 ((x * y / 18446744073709551616 : Nat) : Int), .int .u64 ((x * y % 18446744073709551616 : Nat) : Int)]) ∧ w' = w := Any.bits_Mul Try.lays212 x y hx hy w
end Go.Proofs
namespace Go.Proofs.Ytnjadmgnnbamhaa.P
open Go.RowKit Go.Proofs.YtnjadmgnnbamhaaW.PrintWords Go.Proofs.YtnjadmgnnbamhaaW.PrintLast Go.Proofs.YtnjadmgnnbamhaaW.PrintMore
set_option linter.unusedVariables false
set_option linter.unusedSimpArgs false
set_option maxRecDepth 100000 in
theorem rep_cells {W : World} {base g n cap m : Nat} {x : Int} (HO : Kd.R (Kd.int .i64) 3 W base (fun _ => True) (.slice (some ⟨g, 0, none⟩) n cap) (List.replicate m x ++ List.replicate (n - m) 0)) (hm : m ≤ n) (ty : TypeId) (sCap dCap : Nat) :
    (Builtin.copy_ #[25, 25] ty #[.slice (some ⟨g, m, none⟩) (n - m) dCap, .slice (some ⟨g, 0, none⟩) m sCap]).run Try.prog W = .ok (.int .i64 ((min m (n - m) : Nat) : Int)) (W.setCells g m (List.replicate (min m (n - m)) (Value.int .i64 x))) ∧
    Kd.R (Kd.int .i64) 3 (W.setCells g m (List.replicate (min m (n - m)) (Value.int .i64 x))) base (fun _ => True) (.slice (some ⟨g, 0, none⟩) n cap) (List.replicate (m + min m (n - m)) x ++ List.replicate (n - (m + min m (n - m))) 0) ∧
    W.grownBy (W.setCells g m (List.replicate (min m (n - m)) (Value.int .i64 x))) (some g) := by
  have hown := Kd.own_of_R (enc := Value.int .i64) HO
  have hln : (List.replicate m x ++ List.replicate (n - m) (0 : Int)).length = n := by rw [List.length_append, List.length_replicate, List.length_replicate]; omega
  rcases hown.2 with ⟨h0, _⟩ | ⟨g', cap', cur, hv, hbase, hh, h1, h2, h3, h4⟩
  · cases h0
  injection hv with e1 e2 e3
  injection e1 with e1
  injection e1 with e1 _
  subst e1; subst e3
  rw [hln] at h1 h4
  rw [Nat.mul_one] at h3 h4
  have hget : ∀ j, j < m → W.cell? ⟨g, j, none⟩ = some (Value.int .i64 x) := fun j hj => by
    have e5 : (cur.toList.take n)[j]? = some (Value.int .i64 x) := by
      rw [h4]
      simp [encs, List.getElem?_append_left, hj]
    rw [List.getElem?_take_of_lt (by omega), Array.getElem?_toList] at e5
    simp [World.cell?, hh, e5]
  have hr := run_copy_cells (P := Try.prog) W 25 25 ty 3 g m (n - m) dCap ⟨g, 0, none⟩ m sCap (List.replicate (min m (n - m)) (Value.int .i64 x)) Try.underlying25 (by kernel_rfl) (List.length_replicate ..)
    (fun j v hj => by
      rw [List.getElem?_replicate] at hj
      by_cases c : j < min m (n - m)
      · rw [if_pos c] at hj
        rw [← hj, add_plain]
        exact hget j (by omega)
      · rw [if_neg c] at hj; cases hj)
    (fun j hj => by
      rw [List.length_replicate] at hj
      have : m + j < cur.size := by omega
      simp [World.cell?, hh, this])
    (fun j _ => blk_frozen hh _) (fun v hv => by rw [(List.mem_replicate.1 hv).2]; rfl)
  obtain ⟨cur', k1, k2, k3⟩ := setCells_row (List.replicate (min m (n - m)) (Value.int .i64 x)) m W cur hh (by rw [List.length_replicate]; omega)
  obtain ⟨s1, s2, s3, s4⟩ := setCells_same g (List.replicate (min m (n - m)) (Value.int .i64 x)) m W
  refine ⟨by rw [hr, List.length_replicate]; rfl, Kd.R_of_own (enc := Value.int .i64) ?_ (fun _ _ => trivial), ⟨s1, s2, s3, by rw [s4]; exact Nat.le_refl _, fun k _ hk => setCells_far _ _ k (fun he => hk (by rw [he]))⟩⟩
  have hln2 : (List.replicate (m + min m (n - m)) x ++ List.replicate (n - (m + min m (n - m))) (0 : Int)).length = n := by rw [List.length_append, List.length_replicate, List.length_replicate]; omega
  rw [hln2]
  refine ⟨by rw [encs_length, hln2, Nat.mul_one], .inr ⟨g, cap, cur', rfl, hbase, k1, h1, h2, by rw [k2, h3, Nat.mul_one], ?_⟩⟩
  rw [k3, Nat.mul_one, List.length_replicate]
  have ht : cur.toList.take n = List.replicate m (Value.int .i64 x) ++ List.replicate (n - m) (Value.int .i64 0) := by rw [h4]; simp [encs]
  have hcl : cur.toList.length = cap := by rw [Array.length_toList]; exact h3
  apply List.ext_getElem?
  intro j
  have hj0 : ∀ j, j < n → cur.toList[j]? = (List.replicate m (Value.int .i64 x) ++ List.replicate (n - m) (Value.int .i64 0))[j]? := fun j hj => by rw [← ht, List.getElem?_take_of_lt hj]
  by_cases cj : j < n
  · rw [List.getElem?_take_of_lt cj, List.append_assoc]
    by_cases c1 : j < m
    · rw [List.getElem?_append_left (by rw [List.length_take]; omega), List.getElem?_take_of_lt c1, hj0 j cj]
      simp [encs, List.getElem?_append, List.getElem?_replicate, c1, show j < m + min m (n - m) by omega]
    · rw [List.getElem?_append_right (by rw [List.length_take]; omega), List.length_take, show min m cur.toList.length = m by omega]
      by_cases c2 : j < m + min m (n - m)
      · rw [List.getElem?_append_left (by rw [List.length_replicate]; omega)]
        simp [encs, List.getElem?_append, List.getElem?_replicate, c2, show j - m < min m (n - m) by omega]
      · rw [List.getElem?_append_right (by rw [List.length_replicate]; omega), List.length_replicate, List.getElem?_drop, show m + min m (n - m) + (j - m - min m (n - m)) = j by omega, hj0 j cj]
        simp [encs, List.getElem?_append, List.getElem?_replicate, c1, c2, show j - m < n - m by omega]
        omega
  · rw [List.getElem?_take_eq_none (by omega), List.getElem?_eq_none (by rw [encs_length, hln2]; omega)]
set_option maxRecDepth 100000 in
set_option maxHeartbeats 2000000 in
theorem rep_calls (A0 : Option Addr) (c0 : Nat) (x : Int) (n : Nat) (hn : n ≤ 1048576) (w : World) (hr0 : Kd.C (Kd.int .i64) w A0 1 [x]) (hc0 : 1 ≤ c0) :
    Calls Try.prog 32 #[.slice A0 1 c0, .int .i64 (n : Int)] w fun e w' => ∃ v0_ : Value, e = .returned (v0_) ∧ Kd.R (Kd.int .i64) 3 w' w.heap.size (fun _ => True) v0_ (List.replicate n x) ∧ Below w.heap.size w w' := by
  have HR := Aside0.mk hr0
  have HC := Aside0.mk hc0
  clear hr0 hc0
  have hneg : decide ((n : Int) < 0) = false := decide_eq_false (by omega)
  have hgt : decide ((n : Int) > 9223372036854775807) = false := decide_eq_false (by omega)
  have hgt2 : decide (9223372036854775807 < (n : Int)) = false := decide_eq_false (by omega)
  have HN := Aside0.mk hn
  have hinf : (Try.prog.info? 3).map (·.size) = some 1 := by kernel_rfl
  have HB := zM (Below.refl w.heap.size w)
  have hmul := Try.bits_Mul 1 n (by decide) (by omega) w
  rw [Nat.one_mul, Nat.div_eq_of_lt (by omega), Nat.mod_eq_of_lt (by omega), show ((1 : Nat) : Int) = 1 from rfl, show ((0 : Nat) : Int) = 0 from rfl] at hmul
  have HM := Aside0.mk hmul
  clear hmul
  go_enter Try.func32, Try.ntmps32
  go_wp2_with (first
    | (go_at_call 42; refine HM.out.mono ?_; rintro e w' ⟨rfl, hw⟩; replace hw := hw.symm; subst hw)
    | ((with_reducible refine gate_dst (N := 30) rfl ?_); refine Kd.R_make (Kd.int .i64) _ 3 rfl (N := 30) rfl 25 _ _ rfl (n : Int) rfl rfl Try.underlying25 (.int .i64 0) 8 info3 rfl (by decide) (by omega) 0 (ok := fun _ => True) (okp := fun _ => True) rfl (fun _ hk => hk) trivial (by omega) (by rw [Int.toNat_natCast]; have := HN.out; omega) (Below.refl _ _) (Nat.le_refl _) ?_; intro v w8 ho hb hg_ hnew_; clear hg_ hnew_; rw [Int.toNat_natCast] at ho; have HO := zM (Kd.R_lower ho (below_size HB.out)); have HR1 := zM (Kd.C_below HR.out hb); replace HB := zM (below_step HB.out hb); clear ho hb)
    | ((with_reducible refine gate_builtin (b := .copy) (xs := #[.tmp 31, .tmp 32]) rfl ?_); refine Kd.R_copy (enc := Value.int .i64) (0 : Int) (w0 := w) w.heap.size rfl (.tmp 31) (.tmp 32) 25 25 3 rfl Try.underlying25 hinf v (List.replicate n 0) [x] A0 1 c0 (fun _ => True) rfl rfl HO.out HR1.out HB.out (below_size HB.out) ?_; intro w9 ho hb hg_; replace HO := zM ho; replace HB := zM hb; clear ho hb hg_ HR1))
  have hlen : (List.replicate n (0 : Int)).length = n := List.length_replicate ..
  rw [hlen] at HO
  (try simp only [hlen])
  have hrow : List.take (min 1 n) [x] ++ List.drop (min 1 n) (List.replicate n (0 : Int)) = List.replicate (min 1 n) x ++ List.replicate (n - min 1 n) 0 := by
    rw [List.drop_replicate]
    congr 1
    rcases Nat.eq_zero_or_pos n with h | h
    · subst h; rfl
    · rw [show min 1 n = 1 by omega]; rfl
  rw [hrow] at HO
  have HO2 := Aside0.mk (show Kd.R (Kd.int .i64) 3 w9 w.heap.size (fun _ => True) v (List.replicate (min 1 n) x ++ List.replicate (n - min 1 n) 0) from HO.out)
  clear HO hrow hlen
  obtain ⟨Av, cv, ev⟩ := Kd.R_slice HO2.out
  rw [show (List.replicate (min 1 n) x ++ List.replicate (n - min 1 n) (0 : Int)).length = n by rw [List.length_append, List.length_replicate, List.length_replicate]; exact Nat.add_sub_of_le (Nat.min_le_right 1 n)] at ev
  subst ev
  go_loopg [8] (n + 1) (fun kq v8 w' => ∃ m : Nat, v8 = .int .i64 (m : Int) ∧ Aside0 (m ≤ n) ∧ Aside0 (m = 0 → n = 0) ∧ Aside0 (n - m < kq) ∧ Aside0 (Kd.R (Kd.int .i64) 3 w' w.heap.size (fun _ => True) (.slice Av n cv) (List.replicate m x ++ List.replicate (n - m) 0)) ∧ Aside0 (Below w.heap.size w w'))
  case atStart => exact ⟨min 1 n, rfl, ⟨by omega⟩, ⟨by omega⟩, ⟨by omega⟩, HO2, HB⟩
  case round =>
    clear HO2 HB
    obtain ⟨m, rfl, HM1, HM0, HK1, HO, HB⟩ := hrel
    by_cases c1 : m < n
    · have hm1 := HM1.out
      obtain ⟨g, cap, eg, gb, gl, HG⟩ := Kd.R_form HO.out (by rw [List.length_append, List.length_replicate, List.length_replicate]; omega)
      injection eg with eA eN ec
      clear eN
      subst eA; subst ec
      have c1b : decide ((m : Int) < (n : Int)) = true := decide_eq_true (by omega)
      have c1c : decide (m < n) = true := decide_eq_true c1
      have p1 : (0 : Int) ≤ (m : Int) := by omega
      have q1 : (m : Int) ≤ (n : Int) := by omega
      have hcap : n ≤ cv := (Kd.R_reads' HO.out).2.1
      have HCAP := Aside0.mk hcap
      have GB := Aside0.mk gb
      have hcm : (m ≤ cv) = True := eq_true (by omega)
      have hce : (cv = m) = False := eq_false (by omega)
      replace p1 := eq_true p1
      replace q1 := eq_true q1
      clear hm1 c1 hcap hn gb gl HG hgt hgt2 hneg hinf
      go_upto_region 9 with (fail)
      (try simp only [Act.put, List.setIfInBounds_toArray, List.set_cons_zero, List.set_cons_succ])
      refine zs (n := 10) (fun _ => True) trivial (fun hHeld => ?_)
      have HO1 := zM (Kd.R_drew HO.out)
      have HB1 := zM (below_drew1 HB.out)
      clear HO HB
      generalize wr.drew = w10 at HO1 HB1 hHeld ⊢
      obtain ⟨C1, C2, C3⟩ := rep_cells HO1.out HM1.out 3 cv (cv - m)
      have CR := Aside0.mk C1
      have CO := Aside0.mk C2
      have CG := Aside0.mk C3
      clear C1 C2 C3
      refine zq 0 38 ?_
      refine zq 1 39 ?_
      refine zq 2 40 ?_
      refine zq 3 41 ?_
      refine zq 4 42 ?_
      refine zq 5 43 ?_
      refine zq 6 44 ?_
      refine one_ (i := 7) (N := some 45) #[true, true, true, true, true, true, true, true, false, false] rfl rfl (by kernel_rfl) (by decide) (fun K hK => ?_)
      refine value_ (w1 := w10.setCells g m (List.replicate (min m (n - m)) (Value.int .i64 x))) (v := .int .i64 ((min m (n - m) : Nat) : Int)) (by rfl) rfl ?_ ?_
      · go_simp
        rw [CR.out]
        rfl
      refine hK.out _ _ trivial (fun hHeld => ?_)
      clear hK K
      refine zn 45 ?_
      have hw1 : wrap64 ((m : Int) + ((min m (n - m) : Nat) : Int)) = ((m + min m (n - m) : Nat) : Int) := by
        have := HN.out
        have := HM1.out
        have := Nat.min_le_left m (n - m)
        unfold wrap64
        omega
      have HW := Aside0.mk hw1
      clear hw1
      refine zq 8 46 ?_
      refine zq 9 8 ?_
      refine zx ?_
      have hlt := of_decide_eq_true c1c
      have hmp : 0 < m := by
        rcases Nat.eq_zero_or_pos m with h | h
        · have := HM0.out h; omega
        · exact h
      have hq0 : 0 < min m (n - m) := by rw [Nat.lt_min]; omega
      have hq1 : m + min m (n - m) ≤ n := by have := Nat.min_le_right m (n - m); omega
      have HB2 := Aside0.mk (HB1.out.grown CG.out HB1.out.size (fun k hk => by injection hk with hk; have := GB.out; omega))
      (try go_wp2)
      go_roundg (n - m)
      case measure => exact HK1.out
      case rel => exact ⟨m + min m (n - m), by first | rfl | exact congrArg (Value.int .i64) HW.out | (rw [HW.out]; done), ⟨hq1⟩, ⟨fun h => by omega⟩, ⟨by omega⟩, CO, HB2⟩
    · have hm1 := HM1.out
      have e1 : m = n := by omega
      have c1b : decide ((m : Int) < (n : Int)) = false := decide_eq_false (by omega)
      have c1c : decide (m < n) = false := decide_eq_false c1
      have HE := Aside0.mk e1
      clear e1 c1 hm1 hn hgt hgt2 hneg hinf
      go_wp2
      go_ret
      refine ⟨_, rfl, ?_, HB.out⟩
      have e2 : List.replicate m x ++ List.replicate (n - m) 0 = List.replicate n x := by rw [HE.out, Nat.sub_self]; simp
      rw [← e2]
      exact HO.out
def slices_Repeat_int_int.f (l : List Int) (n : Int) : Option (List Int) := if l.length = 1 ∧ 0 ≤ n ∧ n ≤ 1048576 then some (List.replicate n.toNat (l.headD 0)) else none
theorem slices_Repeat_int_int.calls (A0 : Option Addr) (c0 : Nat) (l0 : List Int) (a1 : Int) (r : List Int) (w : World) (hr0 : Kd.C (Kd.int .i64) w A0 l0.length l0) (hc0 : l0.length ≤ c0) (h : slices_Repeat_int_int.f l0 a1 = some r) :
    Calls Try.prog 32 #[.slice A0 l0.length c0, .int .i64 a1] w fun e w' => ∃ v0_ : Value, e = .returned (v0_) ∧ Kd.R (Kd.int .i64) 3 w' w.heap.size (fun _ => True) v0_ r ∧ Below w.heap.size w w' := by
  unfold slices_Repeat_int_int.f at h
  by_cases c : l0.length = 1 ∧ 0 ≤ a1 ∧ a1 ≤ 1048576
  · rw [if_pos c] at h
    obtain rfl := Option.some.inj h
    obtain ⟨c1, c2, c3⟩ := c
    obtain ⟨n, rfl⟩ := Int.eq_ofNat_of_zero_le c2
    cases l0 with
    | nil => simp at c1
    | cons x t =>
      have ht : t = [] := by cases t with
        | nil => rfl
        | cons y s => simp at c1
      subst ht
      rw [Int.toNat_natCast]
      exact rep_calls A0 c0 x n (by omega) w hr0 hc0
  · rw [if_neg c] at h
    cases h
end Go.Proofs.Ytnjadmgnnbamhaa.P
