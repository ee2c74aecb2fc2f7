/- The nodes that are not in a set, as both sides list them. -/
import Derived.Test.YthnojbafclglpaaBestOfKindG14
import Derived.Test.YthnojbafclglpaaBestOfKindG12
import Derived.Test.YthnojbafclglpaaBestOfKindG13
import Derived.Test.YthnojbafclglpaaBestOfKindG6
import Derived.Test.YthnojbafclglpaaBestOfKindG5
import Derived.Test.YthnojbafclglpaaBestOfKindG11
namespace Go.Proofs.Ythnojbafclglpaa.P
open Go.RowKit Go.Proofs.YthnojbafclglpaaW.PrintWords Go.Proofs.YthnojbafclglpaaW.PrintLast Go.Proofs.YthnojbafclglpaaW.PrintMore
set_option linter.unusedVariables false

theorem l1Has_loop (l : List Int) (x : Int) (hl : l.length ≤ 1048576) (d : Nat) : ∀ (m : Nat), l.length - m = d → m ≤ l.length → Ev (fun k => spec_l1Has.l0 k l x (m : Int)) (decide (x ∈ l.drop m)) := by
  induction d with
  | zero =>
    intro m h0 h1
    refine Ev.step (fun k => by rw [spec_l1Has.l0]) (Ev.neg (by omega) ?_)
    rw [List.drop_eq_nil_of_le (by omega), decide_eq_false (by simp)]
    exact Ev.now _
  | succ d ih =>
    intro m h0 h1
    have hm : m < l.length := by omega
    refine Ev.step (fun k => by rw [spec_l1Has.l0]) (Ev.pos (by omega) (Ev.pos (by omega) ?_))
    rw [rd_at l m hm, List.drop_eq_getElem_cons hm, wrap_up hm (by omega)]
    by_cases c : l[m] = x
    · rw [decide_eq_true (by rw [c]; exact List.mem_cons_self ..)]
      exact Ev.pos c (Ev.now _)
    · have h := ih (m + 1) (by omega) (by omega)
      rw [show decide (x ∈ l[m] :: l.drop (m + 1)) = decide (x ∈ l.drop (m + 1)) from by
        rw [decide_eq_decide, List.mem_cons]
        exact ⟨fun h => h.resolve_left (fun h => c h.symm), .inr⟩]
      exact Ev.neg c h
theorem l1Has_ev (l : List Int) (x : Int) (hl : l.length ≤ 1048576) : Ev (fun k => spec_l1Has.f k l x) (decide (x ∈ l)) := by
  have := l1Has_loop l x hl l.length 0 (by omega) (Nat.zero_le _)
  unfold spec_l1Has.f
  simpa only [List.drop_zero, Int.natCast_zero] using this
/-- The numbers of a row of d from y on that pass. -/
def selI (f : Int → Bool) : Nat → Int → List Int
  | 0, _ => []
  | d + 1, y => (if f y = true then [y] else []) ++ selI f d (y + 1)
theorem selI_len (f : Int → Bool) (d : Nat) : ∀ y, (selI f d y).length ≤ d := by
  induction d with
  | zero => intro y; simp [selI]
  | succ d ih =>
    intro y
    have := ih (y + 1)
    simp only [selI, List.length_append]
    split <;> simp only [List.length_nil, List.length_cons] <;> omega
theorem selI_congr (f g : Int → Bool) (d : Nat) : ∀ y, (∀ z, y ≤ z → z < y + (d : Int) → f z = g z) → selI f d y = selI g d y := by
  induction d with
  | zero => intro y _; rfl
  | succ d ih =>
    intro y h
    simp only [selI]
    rw [h y (by omega) (by omega), ih (y + 1) (fun z h1 h2 => h z (by omega) (by omega))]
theorem selI_none (f : Int → Bool) (d : Nat) : ∀ y, (∀ z, y ≤ z → z < y + (d : Int) → f z = false) → selI f d y = [] := by
  induction d with
  | zero => intro y _; rfl
  | succ d ih =>
    intro y h
    simp only [selI]
    rw [h y (by omega) (by omega), ih (y + 1) (fun z h1 h2 => h z (by omega) (by omega))]
    rfl
theorem selI_add (f : Int → Bool) (d e : Nat) : ∀ y, selI f (d + e) y = selI f d y ++ selI f e (y + (d : Int)) := by
  induction d with
  | zero => intro y; simp [selI]
  | succ d ih =>
    intro y
    rw [show d + 1 + e = (d + e) + 1 by omega]
    simp only [selI]
    rw [ih (y + 1), List.append_assoc, show y + 1 + (d : Int) = y + ((d + 1 : Nat) : Int) by omega]
theorem selI_mem (f : Int → Bool) (d : Nat) : ∀ y z, z ∈ selI f d y ↔ (y ≤ z ∧ z < y + (d : Int)) ∧ f z = true := by
  induction d with
  | zero => intro y z; simp only [selI, List.not_mem_nil, false_iff]; omega
  | succ d ih =>
    intro y z
    simp only [selI, List.mem_append, ih]
    by_cases c : f y = true
    · rw [if_pos c, List.mem_singleton]
      constructor
      · rintro (rfl | h)
        · exact ⟨by omega, c⟩
        · exact ⟨by omega, h.2⟩
      · rintro ⟨h, hf⟩
        by_cases hz : z = y
        · exact .inl hz
        · exact .inr ⟨by omega, hf⟩
    · rw [if_neg c]
      constructor
      · rintro (h | h)
        · simp at h
        · exact ⟨by omega, h.2⟩
      · rintro ⟨h, hf⟩
        by_cases hz : z = y
        · subst hz; exact absurd hf c
        · exact .inr ⟨by omega, hf⟩
def allI (n : Int) : Int := IntKind.u64.wrap ((shl .u64 1 n) - 1)
def lessI (b c : Int) : Int := Go.bits .andNot .u64 b c
theorem lessI_fin : ∀ n : Fin 9, ∀ b : Fin 256, (0 ≤ lessI (allI n) b ∧ lessI (allI n) b < 256) ∧ ∀ y : Fin 8, hasI (lessI (allI n) b) y = (decide (y.val < n.val) && !hasI b y) := by decide +kernel
theorem lessI_at {n b : Int} (hn : 0 ≤ n ∧ n ≤ 8) (hb : 0 ≤ b ∧ b < 256) : (0 ≤ lessI (allI n) b ∧ lessI (allI n) b < 256) ∧ ∀ y, 0 ≤ y → y < 8 → hasI (lessI (allI n) b) y = (decide (y < n) && !hasI b y) := by
  obtain ⟨i, rfl⟩ := fin_of (n := 9) hn.1 (by omega)
  obtain ⟨j, rfl⟩ := fin_of (n := 256) hb.1 hb.2
  have h := lessI_fin i j
  refine ⟨h.1, fun y h0 h8 => ?_⟩
  obtain ⟨q, rfl⟩ := fin_of (n := 8) h0 h8
  rw [h.2 q]
  congr 1
  rw [decide_eq_decide]
  omega
theorem bag_list_loop (b : Int) (d : Nat) : ∀ (y : Int) (acc : List Int), (8 - y).toNat = d → 0 ≤ y → acc.length + d ≤ 1000 → Ev (fun k => impl_bag_list.l0 k b acc y) (acc ++ selI (hasI b) d y) := by
  induction d with
  | zero =>
    intro y acc h0 h1 h2
    refine Ev.step (fun k => by rw [impl_bag_list.l0]) (Ev.neg (by omega) ?_)
    simp only [selI, List.append_nil]
    exact Ev.now _
  | succ d ih =>
    intro y acc h0 h1 h2
    refine Ev.step (fun k => by rw [impl_bag_list.l0]) (Ev.pos (by omega) (Ev.pos (by omega) ?_))
    have hw : wrap64 (y + 1) = y + 1 := wrap_nat (by omega) (by omega)
    rw [hw, selI]
    by_cases c : hasI b y = true
    · rw [if_pos c, ← List.append_assoc]
      refine Ev.pos (by simpa only [hasI, beq_iff_eq] using c) (Ev.pos (by omega) ?_)
      exact ih (y + 1) _ (by omega) (by omega) (by rw [List.length_append, List.length_singleton]; omega)
    · rw [if_neg c, List.nil_append]
      exact Ev.neg (by simpa only [hasI, beq_iff_eq] using c) (ih (y + 1) acc (by omega) (by omega) (by omega))
theorem bag_list_ev (b : Int) : Ev (fun k => impl_bag_list.f k b) (selI (hasI b) 8 0) := by
  unfold impl_bag_list.f
  have := bag_list_loop b 8 0 [] (by omega) (by omega) (by simp)
  simpa only [List.nil_append] using this
theorem set_small {a : Int} {e : List S64} {l : List Int} (h : okG a e = true) (c : risI 0 (wrap64 (a - 1)) none l = true) : ∀ x ∈ l, 0 ≤ x ∧ x < 8 := fun x hx => by
  have h1 := okG_all h
  have hw : wrap64 (a - 1) = a - 1 := wrap_nat (by omega) (by omega)
  have := risI_all _ _ l none c x hx
  omega
end Go.Proofs.Ythnojbafclglpaa.P
namespace Go.Proofs.Ythnojbafclglpaa.P
open Go.RowKit Go.Proofs.YthnojbafclglpaaW.PrintWords Go.Proofs.YthnojbafclglpaaW.PrintLast Go.Proofs.YthnojbafclglpaaW.PrintMore
set_option linter.unusedVariables false
set_option linter.unusedSimpArgs false

theorem compare_CmpL : CmpL 105 cmpL := by
  intro W x y A B c c' hx hc hy hc'
  refine (slices_Compare_int_int.calls (x.length + 1) A c x B c' y (cmpL x y) W hx hc hy hc' (slices_Compare_at x y hx.2.1 _ (Nat.lt_succ_self _))).mono ?_
  rintro e w' ⟨rfl, ⟨n, rfl⟩⟩
  exact ⟨rfl, n, #[], (Sort.grow_empty _).symm⟩
theorem ltOf_cmpL : ltOf cmpL = befL := by
  funext x y
  unfold ltOf
  rw [Bool.eq_iff_iff, decide_eq_true_eq]
  exact cmpL_neg x y
theorem swo_befL : Sort.SWO befL := ⟨befL_irrefl, fun x y z => befL_trans x y z, fun x y z => befL_ntrans⟩
theorem sortLists.calls (P0_ : Nat → Prop) (u9000_ : Value) (l0 : List (List Int)) (w0 w : World) (hB : Below w0.heap.size w0 w) (ho0 : Kd.S (Kd.slice 3 (Kd.int .i64)) 26 w w0.heap.size P0_ u9000_ l0) (hlen : l0.length < 4611686018427387904) :
    Calls Try.prog 104 #[u9000_, .func (.func 105) #[] #[]] w fun e w' => e = .returned (.tuple #[]) ∧ Kd.S (Kd.slice 3 (Kd.int .i64)) 26 w' w0.heap.size (fun k_ => (P0_ k_ ∨ w.heap.size ≤ k_)) u9000_ (sortLL l0) ∧ Below w0.heap.size w0 w' ∧ Kept w w' (fun k_ => P0_ k_) := by
  have h := sortFunc_lists Try.laysSlF6_f104 Try.laysSlF06_f104 104 rfl rfl cmpL (by rw [ltOf_cmpL]; exact swo_befL) (by rw [ltOf_cmpL]; exact befL_tri) 105 (enters_of Try.func105 (by kernel_rfl) rfl) compare_CmpL P0_ u9000_ l0 w0 w hB ho0 hlen
  rw [ltOf_cmpL] at h
  exact h
/-- The sets of the codes below n of which p is so. -/
def codesL (p : Int → Bool) (n : Nat) : List (List Int) := (selI p n 0).map fun b => selI (hasI b) 8 0
theorem codesL_succ (p : Int → Bool) (n : Nat) : codesL p (n + 1) = codesL p n ++ (if p (n : Int) = true then [selI (hasI (n : Int)) 8 0] else []) := by
  unfold codesL
  rw [selI_add, List.map_append]
  congr 1
  simp only [selI, List.append_nil, Int.zero_add]
  split <;> rfl
theorem codesL_len (p : Int → Bool) (n : Nat) : (codesL p n).length ≤ n := by
  unfold codesL
  rw [List.length_map]
  exact selI_len p n 0
theorem allI_pow : ∀ n : Fin 9, allI n = ((2 ^ n.val - 1 : Nat) : Int) := by decide +kernel
theorem all_at (a : Int) (l : List S64) (h0 : 0 ≤ a) (h8 : a ≤ 8) : impl_Graph_all.f a l = some ((2 ^ a.toNat - 1 : Nat) : Int) := by
  unfold impl_Graph_all.f
  rw [if_pos h0]
  obtain ⟨i, rfl⟩ := fin_of (n := 9) h0 (by omega)
  exact congrArg some (allI_pow i)
/-- Function g, bound to the variables lb, answers p of a set's code; memory that was there stays. -/
def PredN (g : Nat) (lb : Array Value) (p : Int → Bool) (N : Nat) (w : World) : Prop :=
  ∀ (W : World) (b : Int), 0 ≤ b → b < (N : Int) → Below w.heap.size w W → Calls Try.prog g (#[.int .u64 b] ++ lb) W fun e w' => e = .returned (.bool (p b)) ∧ Below W.heap.size W w'
theorem PredN.mono {g : Nat} {lb : Array Value} {p : Int → Bool} {N : Nat} {w w' : World} (h : PredN g lb p N w) (hb : Below w.heap.size w w') : PredN g lb p N w' := fun W b h0 h1 h2 => h W b h0 h1 (below_step hb h2)
set_option maxRecDepth 100000 in
set_option maxHeartbeats 2000000 in
theorem sets_calls (g : Nat) (lb : Array Value) (eg : ∀ (args : Array Value) (w : World), (callFunc g args).run Try.prog w = .ok (.enter g args) w) (p : Int → Bool) (a0 : Int) (h0 : 0 ≤ a0) (h8 : a0 ≤ 8) (A1 : Option Addr) (c1 : Nat) (l1 : List S64) (w : World)
    (hr : Kd.C k64 w A1 l1.length l1) (hc : l1.length ≤ c1) (hp : PredN g lb p (2 ^ a0.toNat) w) :
    Calls Try.prog 170 #[.agg #[.int .i64 a0, .slice A1 l1.length c1], .func (.func g) #[] lb] w fun e w' => ∃ v : Value, e = .returned v ∧ Kd.S (Kd.slice 3 (Kd.int .i64)) 26 w' w.heap.size (fun _ => True) v (sortLL (codesL p (2 ^ a0.toNat))) ∧ Below w.heap.size w w' := by
  have hu43 := Try.underlying43
  have hpow : 2 ^ a0.toNat ≤ 256 := Nat.pow_le_pow_right (n := 2) (by decide) (show a0.toNat ≤ 8 by omega)
  have hpos : 0 < 2 ^ a0.toNat := Nat.pow_pos (by decide)
  obtain ⟨M, hM⟩ : ∃ M : Nat, 2 ^ a0.toNat = M + 1 := ⟨2 ^ a0.toNat - 1, by omega⟩
  have hall := all_at a0 l1 h0 h8
  rw [hM, Nat.add_sub_cancel] at hall
  rw [hM] at hpow hp ⊢
  have HAL := zM hall
  have HM := zM hpow
  have HR := zM hr
  have HC := zM hc
  have HP := zM hp
  have HB := zM (Below.refl w.heap.size w)
  clear hr hc hp hall hpow hpos hM h0 h8
  go_enter Try.func170, Try.ntmps170
  go_wp2_with (first | ((with_reducible refine gate_dst (N := 2) rfl ?_); refine zb (w := w) 2 #[.int .i64 a0, .slice A1 l1.length c1] 43 zB ?_; clear HB; intro gb w3 HB BK GW) | ((with_reducible refine gate_dst (N := 7) rfl ?_); refine Kd.S_lit (Kd.slice 3 (Kd.int .i64)) _ 26 ?hg (N := 7) ?hd (xs := ([] : List (List Int))) (inner := []) (ok := fun _ => True) (okp := fun _ => True) ?hr ?hp (fun _ hk => hk) trivial (Below.refl _ _) (Nat.le_refl _) (by simp) ?_; (case hd => rfl); (case hg => rfl); (case hr => first | (go_simp; done) | (go_simp; rfl)); (case hp => exact (Reps.none _ _)); intro v4 w4 ho5 hb hg_ hnew_; clear hg_ hnew_; have HO := zM (Kd.S_lower ho5 (below_size zB)); replace BK := zM (blk_below (zK BK.out) hb); replace HB := zM (below_step zB hb); clear hb ho5))
  go_loopg [5, 6] (M + 2) (fun kq v5 v6 w' => ∃ (m : Nat), v6 = .int .u64 (m : Int) ∧ Aside0 (m ≤ M + 1) ∧ Aside0 (kq = M + 2 - m) ∧ Aside0 (Kd.S (Kd.slice 3 (Kd.int .i64)) 26 w' w.heap.size (fun _ => True) v5 (codesL p m)) ∧ Aside0 (w'.heap[gb]? = some (.cells #[.int .i64 a0, .slice A1 l1.length c1] 43 (0, 0))) ∧ Aside0 (Below w.heap.size w w'))
  case atStart => exact ⟨0, by first | rfl | (simp; done), ⟨Nat.zero_le _⟩, ⟨by omega⟩, HO, BK, HB⟩
  case round =>
    clear HO BK HB
    obtain ⟨m, rfl, HM1, HK1, HO, BK, HB⟩ := hrel
    have hcz0 := zy BK 0
    have hcz1 := zy BK 1
    have hfz0 := blk_frozen BK.out 0
    have hfz1 := blk_frozen BK.out 1
    by_cases c1_ : m ≤ M
    · have q1 : (m : Int) ≤ (M : Int) := by omega
      have c1b : decide ((m : Int) ≤ (M : Int)) = true := decide_eq_true q1
      have c1c : decide (m ≤ M) = true := decide_eq_true c1_
      have HW := zM (show IntKind.u64.wrap ((m : Int) + 1) = ((m + 1 : Nat) : Int) by have := HM.out; show ((m : Int) + 1) % 18446744073709551616 = _; omega)
      have HLe := zM c1_
      have HX := zM (HP.out.mono HB.out)
      have HLn := zM (codesL_len p m)
      have HS := zM (codesL_succ p m)
      obtain ⟨kf, hf⟩ := Ev.rounds (bag_list_ev (m : Int))
      have HF := zM hf
      clear q1 c1_ hf
      cases hq : p (m : Int) with
      | true =>
        rw [hq, if_pos rfl] at HS
        have HQ := zM hq
        clear hq
        generalize codesL p m = xs at HO HLn HS
        go_wp2_with (first
          | (go_at_call 207; refine (impl_Graph_all.calls a0 _ _ l1 (M : Int) _ (zC (Kd.C_below HR.out HB.out)) HC.out HAL.out).mono ?_; rintro e w5 ⟨rfl, hb⟩; replace HO := zM (Kd.S_below HO.out hb); replace BK := zM (blk_below (zK BK.out) hb); replace HX := zM (HX.out.mono hb); replace HB := zM (below_step zB hb); clear hb)
          | (go_at_fn g; refine (HX.out _ (m : Int) (by omega) (by have := HLe.out; omega) (Below.refl _ _)).mono ?_; rw [HQ.out]; rintro e w6 ⟨rfl, hb⟩; replace HO := zM (Kd.S_below HO.out hb); replace BK := zM (blk_below (zK BK.out) hb); replace HB := zM (below_step zB hb); clear hb)
          | (go_at_call 208; refine (impl_bag_list.calls kf _ (selI (hasI (m : Int)) 8 0) _ HF.out).mono ?_; rintro e w7 ⟨v7, rfl, ho0, hb⟩; replace HO := zM (Kd.S_elder' HO.out (Kd.R_base ho0) hb); have HI := zM (Kd.R_lower ho0 (below_size zB)); replace BK := zM (blk_below (zK BK.out) hb); replace HB := zM (below_step zB hb); clear ho0 hb; generalize selI (hasI (m : Int)) 8 0 = row at HI HS; obtain ⟨Ao, co, eo⟩ := Kd.R_slice HI.out; subst eo)
          | ((with_reducible refine gate_builtin (b := .append) (xs := #[.tmp 17, .tmp 20]) rfl ?_); at_builtin; refine Kd.S_append (Kd.slice 3 (Kd.int .i64)) (w0 := w) w.heap.size rfl (.tmp 17) (.tmp 20) 22 26 (.slice none 0 0) 24 rfl Try.underlying22 info26 rfl (by decide) (by omega) u5 xs row [.slice Ao row.length co] (fun _ => True) (fun k_ => some k_ = (.slice Ao row.length co : Value).ownBlock) rfl rfl ?aP (fun k_ hk_ => ((Kd.R_mono (ok' := fun k_ => ((fun _ => True)) k_ ∧ some k_ ≠ (u5 : Value).ownBlock) (Kd.R_apart' (HI.out) (Kd.S_typed HO.out) (by decide)) (fun k_ hk => ⟨trivial, hk.2⟩))).1 k_ hk_.symm) ?aF ?aO ?aB ?aS ?aL ?_; (case aP => exact Kd.M_row (Kd.R_mono (Kd.R_tight rfl (Kd.R_mono (ok' := fun k_ => ((fun _ => True)) k_ ∧ some k_ ≠ (u5 : Value).ownBlock) (Kd.R_apart' (HI.out) (Kd.S_typed HO.out) (by decide)) (fun k_ hk => ⟨trivial, hk.2⟩))) (fun _ h_ => h_))); (case aB => exact zB); (case aF => exact (fun _ _ => trivial)); (case aO => exact (by (with_reducible repeat (first | apply Kd.S_alloc | apply Kd.S_drewN | apply Kd.S_drew)); exact Kd.S_mono HO.out (fun k_ hk => ⟨trivial, fun e_ => hk.2 e_⟩))); (case aS => exact (below_size zB)); (case aL => have := HLn.out; have := HM.out; have := HLe.out; omega); intro v8 w8 ho hb hg hat; rw [← HS.out] at ho; replace BK := zM (blk_grown (zK BK.out) hg (Kd.S_ne HO.out BK.out (by decide))); replace HB := zM hb; replace HO := zM ho; clear ho hb hg hat))
        go_roundg (M + 1 - m)
        case measure => have := HK1.out; have := HLe.out; omega
        case rel => exact ⟨m + 1, by first | rfl | exact congrArg (Value.int .u64) HW.out | (rw [HW.out]; done), ⟨by have := HLe.out; omega⟩, ⟨by omega⟩, HO, BK, HB⟩
      | false =>
        rw [hq, if_neg (by decide), List.append_nil] at HS
        have HQ := zM hq
        clear hq
        rw [← HS.out] at HO
        go_wp2_with (first
          | (go_at_call 207; refine (impl_Graph_all.calls a0 _ _ l1 (M : Int) _ (zC (Kd.C_below HR.out HB.out)) HC.out HAL.out).mono ?_; rintro e w5 ⟨rfl, hb⟩; replace HO := zM (Kd.S_below HO.out hb); replace BK := zM (blk_below (zK BK.out) hb); replace HX := zM (HX.out.mono hb); replace HB := zM (below_step zB hb); clear hb)
          | (go_at_fn g; refine (HX.out _ (m : Int) (by omega) (by have := HLe.out; omega) (Below.refl _ _)).mono ?_; rw [HQ.out]; rintro e w6 ⟨rfl, hb⟩; replace HO := zM (Kd.S_below HO.out hb); replace BK := zM (blk_below (zK BK.out) hb); replace HB := zM (below_step zB hb); clear hb))
        go_roundg (M + 1 - m)
        case measure => have := HK1.out; have := HLe.out; omega
        case rel => exact ⟨m + 1, by first | rfl | exact congrArg (Value.int .u64) HW.out | (rw [HW.out]; done), ⟨by have := HLe.out; omega⟩, ⟨by omega⟩, HO, BK, HB⟩
    · have q1 : ¬ (m : Int) ≤ (M : Int) := by omega
      have c1b : decide ((m : Int) ≤ (M : Int)) = false := decide_eq_false q1
      have c1c : decide (m ≤ M) = false := decide_eq_false c1_
      have hm : m = M + 1 := by have := HM1.out; omega
      have HE := zM hm
      have HLn := zM (codesL_len p m)
      clear q1 c1_ hm
      go_wp2_with (first
          | (go_at_call 207; refine (impl_Graph_all.calls a0 _ _ l1 (M : Int) _ (zC (Kd.C_below HR.out HB.out)) HC.out HAL.out).mono ?_; rintro e w5 ⟨rfl, hb⟩; replace HO := zM (Kd.S_below HO.out hb); replace BK := zM (blk_below (zK BK.out) hb); replace HB := zM (below_step zB hb); clear hb)
          | (go_at_call 104; refine (sortLists.calls (fun _ => True) _ (codesL p m) w _ HB.out HO.out (by have := HLn.out; have := HE.out; have := HM.out; omega)).mono ?_; rintro e w9 ⟨rfl, ho, hb, hk⟩; replace HO := zM (Kd.S_mono (ok' := fun _ => True) ho (fun _ _ => trivial)); replace HB := zM hb; clear ho hb hk))
      go_ret
      exact ⟨_, rfl, by rw [← HE.out]; exact HO.out, HB.out⟩
end Go.Proofs.Ythnojbafclglpaa.P
namespace Go.Proofs.Ythnojbafclglpaa.P
open Go.RowKit Go.Proofs.YthnojbafclglpaaW.PrintWords Go.Proofs.YthnojbafclglpaaW.PrintLast Go.Proofs.YthnojbafclglpaaW.PrintMore
set_option linter.unusedVariables false
set_option linter.unusedSimpArgs false

/-- The later world has draws and blocks more; nothing else. -/
def Grew (w w' : World) : Prop := ∃ q os, w' = Sort.grow (w.drewN q) os
theorem Grew.refl (w : World) : Grew w w := ⟨0, #[], (Sort.grow_empty _).symm⟩
theorem Grew.drewN {w w' : World} (h : Grew w w') (n : Nat) : Grew w (w'.drewN n) := by
  obtain ⟨q, os, rfl⟩ := h
  refine ⟨q + n, os, ?_⟩
  simp only [Sort.grow, World.drewN, Nat.add_assoc]
theorem Grew.drew {w w' : World} (h : Grew w w') : Grew w w'.drew := h.drewN 1
theorem Grew.alloc {w w' : World} (h : Grew w w') (o : Obj) : Grew w (w'.alloc o) := by
  obtain ⟨q, os, rfl⟩ := h
  refine ⟨q, os.push o, ?_⟩
  simp only [Sort.grow, World.drewN, World.alloc, Array.append_push]
theorem two_C (W : World) (a b : Int) (t : Nat) : Kd.C (Kd.int .i64) (W.alloc (.cells #[.int .i64 a, .int .i64 b] t)) (some ⟨W.heap.size, 0, none⟩) [a, b].length [a, b] := by
  refine Kd.C_of_reads (enc := Value.int .i64) (d := 0) ⟨rfl, by show (2 : Nat) ≤ _; decide, fun _ => ⟨_, rfl, fun j hj => ?_⟩⟩
  rcases j with _ | _ | j
  · rw [add_plain]; go_simp
  · rw [add_plain]; go_simp
  · exact absurd hj (by show ¬ (j + 1 + 1 < 2); omega)
theorem or_at (x y : Int) : cmp_Or_int.f 3 [x, y] = some (if x = 0 then y else x) := by
  have h1 : rd [x, y] 0 = x := rfl
  have h2 : rd [x, y] 1 = y := rfl
  have hw : wrap64 (0 + 1) = 1 := by unfold wrap64; omega
  have hw2 : wrap64 (1 + 1) = 2 := by unfold wrap64; omega
  have e0 : (0 : Int) < (([x, y] : List Int).length : Int) := by show (0 : Int) < 2; decide
  have e1 : (1 : Int) < (([x, y] : List Int).length : Int) := by show (1 : Int) < 2; decide
  have e2 : ¬ (2 : Int) < (([x, y] : List Int).length : Int) := by show ¬ (2 : Int) < 2; decide
  unfold cmp_Or_int.f
  simp only [cmp_Or_int.l0, if_pos e0, if_pos e1, if_neg e2, h1, h2, hw, hw2, if_pos (show (0 : Int) ≤ 0 by decide), if_pos (show (0 : Int) ≤ 1 by decide)]
  by_cases c : x = 0
  · by_cases c2 : y = 0
    · simp [c, c2]
    · simp [c, c2]
  · simp [c]
def cmpS (a b : List Int) : Int := if cmpI (a.length : Int) (b.length : Int) = 0 then cmpL a b else cmpI (a.length : Int) (b.length : Int)
set_option maxHeartbeats 1000000 in
theorem compareSets_CmpL : CmpL 173 cmpS := by
  intro W x y A B c c' hx hc hy hc'
  have HX := zM hx
  have HY := zM hy
  have HC := zM hc
  have HC' := zM hc'
  have HLx := zM hx.2.1
  clear hx hy hc hc'
  obtain ⟨p, hp⟩ : ∃ p, p = cmpI (x.length : Int) (y.length : Int) := ⟨_, rfl⟩
  obtain ⟨q, hq⟩ : ∃ q, q = cmpL x y := ⟨_, rfl⟩
  have HP := zM (show cmp_Compare_int.f (x.length : Int) (y.length : Int) = some p by rw [hp]; exact cmp_Compare_at _ _)
  have HQ := zM (show slices_Compare_int_int.f (x.length + 1) x y = some q by rw [hq]; exact slices_Compare_at x y HLx.out _ (Nat.lt_succ_self _))
  have HE := zM (show cmpS x y = (if p = 0 then q else p) by rw [hp, hq]; rfl)
  rw [HE.out]
  have HO := zM (or_at p q)
  clear hp hq HE
  generalize (if p = 0 then q else p) = r at HO ⊢
  go_enter Try.func173, Try.ntmps173
  go_wp2_with (first
    | (go_at_call 131; refine (cmp_Compare_int.calls _ _ p _ HP.out).mono ?_; rintro e w1 ⟨rfl, ⟨n1, rfl⟩⟩)
    | (go_at_call 105; refine (slices_Compare_int_int.calls _ A c x B c' y q _ (zC HX.out) HC.out (zC HY.out) HC'.out HQ.out).mono ?_; rintro e w2 ⟨rfl, ⟨n2, rfl⟩⟩)
    | (go_at_call 151; refine (cmp_Or_int.calls 3 _ 2 [p, q] r _ (two_C _ p q _) (Nat.le_refl _) HO.out).mono ?_; rintro e w3 ⟨rfl, ⟨n3, rfl⟩⟩))
  go_ret
  exact ⟨rfl, show Grew W _ from (((Grew.refl W).drewN _).alloc _).drewN _⟩
end Go.Proofs.Ythnojbafclglpaa.P
namespace Go.Proofs.Ythnojbafclglpaa.P
open Go.RowKit Go.Proofs.YthnojbafclglpaaW.PrintWords Go.Proofs.YthnojbafclglpaaW.PrintLast Go.Proofs.YthnojbafclglpaaW.PrintMore
set_option linter.unusedVariables false
set_option linter.unusedSimpArgs false

def befS (x y : List Int) : Bool := decide (cmpS x y < 0)
theorem befS_eq (x y : List Int) : befS x y = (if x.length = y.length then befL x y else decide (x.length < y.length)) := by
  unfold befS cmpS cmpI
  by_cases h : x.length < y.length
  · rw [if_neg (by omega : ¬ x.length = y.length), if_pos (by omega : (x.length : Int) < y.length), if_neg (by decide), decide_eq_true h]
    rfl
  · by_cases h2 : x.length = y.length
    · rw [if_pos h2, if_neg (by omega : ¬ (x.length : Int) < y.length), if_neg (by omega : ¬ (x.length : Int) > y.length), if_pos rfl, Bool.eq_iff_iff, decide_eq_true_eq]
      exact cmpL_neg x y
    · rw [if_neg h2, if_neg (by omega : ¬ (x.length : Int) < y.length), if_pos (by omega : (x.length : Int) > y.length), if_neg (by decide), decide_eq_false h]
      rfl
theorem befS_irrefl (x : List Int) : befS x x = false := by rw [befS_eq, if_pos rfl]; exact befL_irrefl x
theorem befS_trans (x y z : List Int) (h1 : befS x y = true) (h2 : befS y z = true) : befS x z = true := by
  rw [befS_eq] at *
  by_cases a : x.length = y.length
  · rw [if_pos a] at h1
    by_cases b : y.length = z.length
    · rw [if_pos b] at h2
      rw [if_pos (a.trans b)]
      exact befL_trans x y z h1 h2
    · rw [if_neg b, decide_eq_true_eq] at h2
      rw [if_neg (by omega), decide_eq_true_eq]
      omega
  · rw [if_neg a, decide_eq_true_eq] at h1
    by_cases b : y.length = z.length
    · rw [if_neg (by omega), decide_eq_true_eq]
      omega
    · rw [if_neg b, decide_eq_true_eq] at h2
      rw [if_neg (by omega), decide_eq_true_eq]
      omega
theorem befS_tri (x y : List Int) (h1 : befS x y = false) (h2 : befS y x = false) : x = y := by
  rw [befS_eq] at *
  by_cases a : x.length = y.length
  · rw [if_pos a] at h1
    rw [if_pos a.symm] at h2
    exact befL_tri x y h1 h2
  · rw [if_neg a, decide_eq_false_iff_not] at h1
    rw [if_neg (fun h => a h.symm), decide_eq_false_iff_not] at h2
    omega
theorem befS_asymm {x y : List Int} (h : befS x y = true) : befS y x = false := by
  cases h2 : befS y x with
  | false => rfl
  | true =>
    have := befS_trans x y x h h2
    rw [befS_irrefl] at this
    exact absurd this (by decide)
theorem befS_ntrans (x y z : List Int) (h1 : befS x y = false) (h2 : befS y z = false) : befS x z = false := by
  cases h : befS x z with
  | false => rfl
  | true =>
    cases h3 : befS y x with
    | true =>
      have := befS_trans y x z h3 h
      rw [h2] at this
      exact absurd this (by decide)
    | false =>
      have := befS_tri x y h1 h3
      subst this
      rw [h2] at h
      exact absurd h (by decide)
theorem swo_befS : Sort.SWO befS := ⟨befS_irrefl, befS_trans, befS_ntrans⟩
def sortSS (ls : List (List Int)) : List (List Int) := ls.mergeSort (fun x y => !befS y x)
theorem sortSizes.calls (P0_ : Nat → Prop) (u9000_ : Value) (l0 : List (List Int)) (w0 w : World) (hB : Below w0.heap.size w0 w) (ho0 : Kd.S (Kd.slice 3 (Kd.int .i64)) 26 w w0.heap.size P0_ u9000_ l0) (hlen : l0.length < 4611686018427387904) :
    Calls Try.prog 104 #[u9000_, .func (.func 173) #[] #[]] w fun e w' => e = .returned (.tuple #[]) ∧ Kd.S (Kd.slice 3 (Kd.int .i64)) 26 w' w0.heap.size (fun k_ => (P0_ k_ ∨ w.heap.size ≤ k_)) u9000_ (sortSS l0) ∧ Below w0.heap.size w0 w' ∧ Kept w w' (fun k_ => P0_ k_) :=
  sortFunc_lists Try.laysSlF6_f104 Try.laysSlF06_f104 104 rfl rfl cmpS swo_befS befS_tri 173 (enters_of Try.func173 (by kernel_rfl) rfl) compareSets_CmpL P0_ u9000_ l0 w0 w hB ho0 hlen
/-- What the closure of ofKind answers. -/
theorem ofKind1_any (ga gk : Nat) (a0 : Int) (A1 : Option Addr) (c1 : Nat) (l1 : List S64) (kind b : Int) (k : Nat) (r : Bool) (hf : impl_Graph_hasKind.f k a0 l1 kind b = some r) (W : World) (hg0 : W.cell? ⟨ga, 0, none⟩ = some (.int .i64 a0)) (hg1 : W.cell? ⟨ga, 1, none⟩ = some (.slice A1 l1.length c1)) (hk : W.cell? ⟨gk, 0, none⟩ = some (.int .i64 kind)) (hr : Kd.C k64 W A1 l1.length l1) (hc : l1.length ≤ c1) :
    Calls Try.prog 171 (#[.int .u64 b] ++ #[.pointer (some ⟨ga, 0, none⟩), .pointer (some ⟨gk, 0, none⟩)]) W fun e w' => e = .returned (.bool r) ∧ Below W.heap.size W w' := by
  have hu := Try.underlying43
  have HF := zM hf
  have HR := zM hr
  have HC := zM hc
  clear hf hr hc
  show Calls Try.prog 171 #[.int .u64 b, .pointer (some ⟨ga, 0, none⟩), .pointer (some ⟨gk, 0, none⟩)] W _
  go_enter Try.func171, Try.ntmps171
  go_wp2_with (go_at_call 172; refine (impl_Graph_hasKind.calls k a0 A1 c1 l1 kind b r _ (zC HR.out) HC.out HF.out).mono ?_; rintro e w' ⟨rfl, hb⟩; have HB := zM hb; clear hb)
  go_ret
  exact ⟨by first | rfl | (simp; done), HB.out⟩
def kindP (k : Nat) (a0 : Int) (l1 : List S64) (kind b : Int) : Bool := (impl_Graph_hasKind.f k a0 l1 kind b).getD false
def kindOk (k : Nat) (a0 : Int) (l1 : List S64) (kind : Int) : Prop := (0 ≤ a0 ∧ a0 ≤ 8) ∧ ∀ b : Fin 256, b.val < 2 ^ a0.toNat → (impl_Graph_hasKind.f k a0 l1 kind (b.val : Int)).isSome = true
instance (k : Nat) (a0 : Int) (l1 : List S64) (kind : Int) : Decidable (kindOk k a0 l1 kind) := by unfold kindOk; infer_instance
def impl_Graph_ofKind.f (k : Nat) (a0_0 : Int) (l0_1 : List S64) (a1 : Int) : Option (List (List Int)) :=
  if kindOk k a0_0 l0_1 a1 then some (sortSS (sortLL (codesL (kindP k a0_0 l0_1 a1) (2 ^ a0_0.toNat)))) else none
set_option maxRecDepth 100000 in
set_option maxHeartbeats 2000000 in
theorem impl_Graph_ofKind.calls (k : Nat) (a0_0 : Int) (A0_1 : Option Addr) (c0_1 : Nat) (l0_1 : List (S64)) (a1 : Int) (r : List (List Int)) (w : World) (hr0_1 : Kd.C k64 w A0_1 l0_1.length l0_1) (hc0_1 : l0_1.length ≤ c0_1) (h : impl_Graph_ofKind.f k a0_0 l0_1 a1 = some r) :
    Calls Try.prog 145 #[.agg #[.int .i64 a0_0, .slice A0_1 l0_1.length c0_1], .int .i64 a1] w fun e w' => ∃ v0_ : Value, e = .returned (v0_) ∧ Kd.S (Kd.slice 3 (Kd.int .i64)) 26 w' w.heap.size (fun _ => True) v0_ r ∧ Below w.heap.size w w' := by
  unfold impl_Graph_ofKind.f at h
  by_cases c : kindOk k a0_0 l0_1 a1
  case neg => rw [if_neg c] at h; cases h
  rw [if_pos c] at h
  have HE := zM (Option.some.inj h)
  have HR := zM hr0_1
  have HC := zM hc0_1
  have HO := zM c
  have hpow : 2 ^ a0_0.toNat ≤ 256 := Nat.pow_le_pow_right (n := 2) (by decide) (show a0_0.toNat ≤ 8 by have := c.1; omega)
  have hl : (sortLL (codesL (kindP k a0_0 l0_1 a1) (2 ^ a0_0.toNat))).length ≤ 256 := by
    rw [sortLL_len]
    exact Nat.le_trans (codesL_len _ _) hpow
  have HL := zM hl
  have HPW := zM hpow
  clear h hr0_1 hc0_1 c hpow hl
  have HP := fun (W : World) (ga gk : Nat) (hg0 : W.cell? ⟨ga, 0, none⟩ = some (.int .i64 a0_0)) (hg1 : W.cell? ⟨ga, 1, none⟩ = some (.slice A0_1 l0_1.length c0_1)) (hk : W.cell? ⟨gk, 0, none⟩ = some (.int .i64 a1)) (hr : Kd.C k64 W A0_1 l0_1.length l0_1) =>
    zM (show PredN 171 #[.pointer (some ⟨ga, 0, none⟩), .pointer (some ⟨gk, 0, none⟩)] (kindP k a0_0 l0_1 a1) (2 ^ a0_0.toNat) W from fun W' b h0 h1 hb => by
      have hs := HO.out.2 ⟨b.toNat, by have := HPW.out; omega⟩ (by show b.toNat < _; omega)
      rw [show ((b.toNat : Nat) : Int) = b by omega] at hs
      obtain ⟨v, hv⟩ := Option.isSome_iff_exists.1 hs
      have := ofKind1_any ga gk a0_0 A0_1 c0_1 l0_1 a1 b k v hv W' (pw_cell_below hb hg0) (pw_cell_below hb hg1) (pw_cell_below hb hk) (Kd.C_below hr hb) HC.out
      unfold kindP
      rw [hv]
      exact this)
  have HB1 := zM (below_alloc (below_alloc (Below.refl w.heap.size w) (.cells #[.int .i64 a0_0, .slice A0_1 l0_1.length c0_1] 43)) (.cells #[.int .i64 a1] 3))
  go_enter Try.func145, Try.ntmps145
  go_wp2_with (first
    | (go_at_call 170; refine (sets_calls _ _ (enters_of Try.func171 (by kernel_rfl) rfl) _ a0_0 HO.out.1.1 HO.out.1.2 A0_1 c0_1 l0_1 _ (Kd.C_below HR.out HB1.out) HC.out (HP _ _ _ (by go_simp) (by go_simp) (by go_simp) (Kd.C_below HR.out HB1.out)).out).mono ?_; rintro e w3 ⟨v3, rfl, ho, hb⟩; have HS := zM (Kd.S_lower ho (below_size HB1.out)); have HB := zM (below_step HB1.out hb); clear ho hb)
    | (go_at_call 104; refine (sortSizes.calls (fun _ => True) _ _ w _ HB.out HS.out (by have := HL.out; omega)).mono ?_; rintro e w4 ⟨rfl, ho, hb, hk⟩; replace HS := zM (Kd.S_mono (ok' := fun _ => True) ho (fun _ _ => trivial)); replace HB := zM hb; clear ho hb hk))
  go_ret
  exact ⟨_, rfl, by rw [← HE.out]; exact HS.out, HB.out⟩
end Go.Proofs.Ythnojbafclglpaa.P
namespace Go.Proofs.Ythnojbafclglpaa.P
open Go.RowKit Go.Proofs.YthnojbafclglpaaW.PrintWords Go.Proofs.YthnojbafclglpaaW.PrintLast Go.Proofs.YthnojbafclglpaaW.PrintMore
set_option linter.unusedVariables false
set_option linter.unusedSimpArgs false

def bestStep (kind : Int) (b s : List Int) : List Int := if kind = 2 ∧ b.length < s.length then s else b
def bestL (kind : Int) (t : List (List Int)) : List Int := t.foldl (bestStep kind) (t.headD [])
def impl_Graph_best.f (k : Nat) (a0_0 : Int) (l0_1 : List S64) (a1 : Int) : Option (List Int) := (impl_Graph_ofKind.f k a0_0 l0_1 a1).bind fun t => if 0 < t.length then some (bestL a1 t) else none
theorem row_of_S {w : World} {base : Nat} {ok : Nat → Prop} {g n cap : Nat} {xs : List (List Int)} (h : Kd.S (Kd.slice 3 (Kd.int .i64)) 26 w base ok (.slice (some ⟨g, 0, none⟩) n cap) xs) (q : Nat) (hq : q < n) {v : Value} (hc : w.cell? ⟨g, q, none⟩ = some v) :
    Kd.R (Kd.int .i64) 3 w base (fun _ => True) v (xs.getD q []) := by
  obtain ⟨c, _, hM, hcc⟩ := Kd.S_get h ([] : List Int) (q : Int) (by omega) (by omega)
  obtain ⟨u, rfl, hR⟩ := hM
  have h2 := hcc 0 u rfl
  have e : (⟨g, 0, none⟩ : Addr).add ((q : Int).toNat * (Kd.slice 3 (Kd.int .i64)).sz + 0) = ⟨g, q, none⟩ := by
    show (⟨g, 0, none⟩ : Addr).add ((q : Int).toNat * 1 + 0) = _
    rw [Int.toNat_natCast, Nat.mul_one, Nat.add_zero, add_plain]
  rw [e, hc] at h2
  obtain rfl := Option.some.inj h2
  rw [Int.toNat_natCast] at hR
  exact Kd.R_mono hR (fun _ _ => trivial)
set_option maxRecDepth 100000 in
set_option maxHeartbeats 2000000 in
theorem impl_Graph_best.calls (k : Nat) (a0_0 : Int) (A0_1 : Option Addr) (c0_1 : Nat) (l0_1 : List (S64)) (a1 : Int) (r : List Int) (w : World) (hr0_1 : Kd.C k64 w A0_1 l0_1.length l0_1) (hc0_1 : l0_1.length ≤ c0_1) (h : impl_Graph_best.f k a0_0 l0_1 a1 = some r) :
    Calls Try.prog 84 #[.agg #[.int .i64 a0_0, .slice A0_1 l0_1.length c0_1], .int .i64 a1] w fun e w' => ∃ v0_ : Value, e = .returned (v0_) ∧ Kd.R (Kd.int .i64) 3 w' w.heap.size (fun _ => True) v0_ r ∧ Below w.heap.size w w' := by
  have hu43 := Try.underlying43
  unfold impl_Graph_best.f at h
  obtain ⟨t, ht, h⟩ := Option.bind_eq_some_iff.mp h
  by_cases c : 0 < t.length
  case neg => rw [if_neg c] at h; cases h
  rw [if_pos c] at h
  have HE := zM (Option.some.inj h)
  have HT := zM ht
  have HN := zM c
  have HR := zM hr0_1
  have HC := zM hc0_1
  clear h ht c hr0_1 hc0_1
  have HB := zM (below_alloc (Below.refl w.heap.size w) (.cells #[.int .i64 a0_0, .slice A0_1 l0_1.length c0_1] 43))
  go_enter Try.func84, Try.ntmps84
  go_wp2_with (go_at_call 145; refine (impl_Graph_ofKind.calls k a0_0 A0_1 c0_1 l0_1 a1 t _ (Kd.C_below HR.out HB.out) HC.out HT.out).mono ?_; rintro e w3 ⟨v3, rfl, ho, hb⟩; have HS := zM (Kd.S_lower ho (below_size HB.out)); have HB2 := zM (below_step HB.out hb); clear ho hb HB; obtain ⟨g, cap, ev, gb, gl, HG⟩ := Kd.S_form HS.out HN.out; subst ev; have HL3 := zM ((Kd.S_reads' HS.out).2.2.2.1); obtain ⟨ad0, A0_, c0_, e0, hx0, hl0, hi0⟩ := at_L4 (Kd.S_reads' HS.out).2.2 0 (by omega) (by have := HN.out; omega); cases e0; rw [add_plain] at hx0; have hx0' : w3.cell? ⟨g, 0, none⟩ = some (.slice A0_ (rd_L4 t 0).length c0_) := hx0; have q0 : (0 : Int) < (t.length : Int) := (by have := HN.out; omega); have HX := zM hx0'; clear HG gb gl hl0 hi0)
  go_loopg [6, 17] (t.length + 1) (fun kq v6 v17 w' => w' = w3 ∧ ∃ (m q : Nat) (b : List Int) (Ab : Option Addr) (cb : Nat), v6 = .slice Ab b.length cb ∧ v17 = .int .i64 (m : Int) ∧ Aside0 (m ≤ t.length) ∧ Aside0 (kq = t.length - m + 1) ∧ Aside0 (q < t.length ∧ w3.cell? ⟨g, q, none⟩ = some (.slice Ab b.length cb) ∧ t.getD q [] = b) ∧ Aside0 (b = (t.take m).foldl (bestStep a1) (t.headD [])))
  case atStart =>
    refine ⟨rfl, 0, 0, rd_L4 t 0, A0_, c0_, rfl, by first | rfl | (simp; done), ⟨Nat.zero_le _⟩, ⟨by omega⟩, ⟨HN.out, HX.out, rfl⟩, ⟨?_⟩⟩
    have := HN.out
    cases t with
    | nil => simp at this
    | cons x t => rfl
  case round =>
    clear hx0 hx0' q0
    obtain ⟨rfl, m, q, b, Ab, cb, rfl, rfl, HM, HK1, HQ, HF⟩ := hrel
    by_cases c1 : m < t.length
    · have q1 : (m : Int) < (t.length : Int) := by omega
      obtain ⟨ad1, A1_, c1_, e1, hx1, hl1, hi1⟩ := at_L4 (Kd.S_reads' HS.out).2.2 (m : Int) (by omega) q1
      cases e1
      rw [Int.toNat_natCast, add_plain] at hx1
      have HX1 := zM hx1
      have HG1 := zM (show rd_L4 t (m : Int) = t[m] by simp [rd_L4, List.getD_eq_getElem?_getD, List.getElem?_eq_getElem c1])
      have HG2 := zM (show t.getD m [] = t[m] by simp [List.getD_eq_getElem?_getD, List.getElem?_eq_getElem c1])
      have HS1 := zM (show (t.take (m + 1)).foldl (bestStep a1) (t.headD []) = bestStep a1 b t[m] by rw [List.take_succ_eq_append_getElem c1, List.foldl_append, ← HF.out]; rfl)
      have HM1 := zM c1
      have c1b : decide ((m : Int) < (t.length : Int)) = true := decide_eq_true q1
      have c1c : decide (m < t.length) = true := decide_eq_true c1
      have p1 : (0 : Int) ≤ (m : Int) := by omega
      have hw1 : (m : Int) + 1 ≤ 9223372036854775807 := by have := HL3.out; omega
      rw [← HG1.out] at HS1 HG2
      generalize rd_L4 t (m : Int) = s at hx1 HX1 HS1 HG2
      replace p1 := eq_true p1
      replace q1 := eq_true q1
      clear hl1 hi1 c1 HG1
      by_cases ck : a1 = 2
      · have ck0 : (a1 == 2) = true := beq_iff_eq.mpr ck
        by_cases cl : b.length < s.length
        · have cl0 : decide ((s.length : Int) > (b.length : Int)) = true := decide_eq_true (by omega)
          have cl1 : decide ((b.length : Int) < (s.length : Int)) = true := decide_eq_true (by omega)
          have cl2 : decide (b.length < s.length) = true := decide_eq_true cl
          have HS2 := zM (show bestStep a1 b s = s by unfold bestStep; rw [if_pos ⟨ck, cl⟩])
          clear ck cl
          go_wp2
          go_roundg (t.length - m)
          case measure => have := HK1.out; have := HM1.out; omega
          case rel => exact ⟨rfl, m + 1, m, s, A1_, c1_, rfl, by first | rfl | (simp; done) | go_num, ⟨by have := HM1.out; omega⟩, ⟨by have := HM1.out; omega⟩, ⟨HM1.out, HX1.out, HG2.out⟩, ⟨by rw [HS1.out, HS2.out]⟩⟩
        · have cl0 : decide ((s.length : Int) > (b.length : Int)) = false := decide_eq_false (by omega)
          have cl1 : decide ((b.length : Int) < (s.length : Int)) = false := decide_eq_false (by omega)
          have cl2 : decide (b.length < s.length) = false := decide_eq_false cl
          have HS2 := zM (show bestStep a1 b s = b by unfold bestStep; rw [if_neg (fun h => cl h.2)])
          clear ck cl
          go_wp2
          go_roundg (t.length - m)
          case measure => have := HK1.out; have := HM1.out; omega
          case rel => exact ⟨rfl, m + 1, q, b, Ab, cb, rfl, by first | rfl | (simp; done) | go_num, ⟨by have := HM1.out; omega⟩, ⟨by have := HM1.out; omega⟩, HQ, ⟨by rw [HS1.out, HS2.out]⟩⟩
      · have ck0 : (a1 == 2) = false := beq_eq_false_iff_ne.mpr ck
        have HS2 := zM (show bestStep a1 b s = b by unfold bestStep; rw [if_neg (fun h => ck h.1)])
        clear ck
        go_wp2
        go_roundg (t.length - m)
        case measure => have := HK1.out; have := HM1.out; omega
        case rel => exact ⟨rfl, m + 1, q, b, Ab, cb, rfl, by first | rfl | (simp; done) | go_num, ⟨by have := HM1.out; omega⟩, ⟨by have := HM1.out; omega⟩, HQ, ⟨by rw [HS1.out, HS2.out]⟩⟩
    · have c1b : decide ((m : Int) < (t.length : Int)) = false := decide_eq_false (by omega)
      have c1c : decide (m < t.length) = false := decide_eq_false c1
      have HF2 := zM (show b = r by rw [HF.out, List.take_of_length_le (by omega)]; exact HE.out)
      clear c1
      go_wp2
      go_ret
      refine ⟨_, rfl, ?_, HB2.out⟩
      have := row_of_S HS.out q HQ.out.1 HQ.out.2.1
      rw [HQ.out.2.2, HF2.out] at this
      first
        | exact this
        | (rw [← HF2.out] at this ⊢; exact this)
end Go.Proofs.Ythnojbafclglpaa.P
namespace Go.Proofs.Ythnojbafclglpaa.P
open Go.RowKit Go.Proofs.YthnojbafclglpaaW.PrintWords Go.Proofs.YthnojbafclglpaaW.PrintLast Go.Proofs.YthnojbafclglpaaW.PrintMore
attribute [local go_sem] max2_int min2_int max_two min_two max_three min_three max_four min_four   -- for this text's walks alone
set_option linter.unusedVariables false
set_option linter.unusedSimpArgs false

/-! ### impl_BestOfKind: function 25 -/
def impl_BestOfKind.f (k : Nat) (a0_0 : Int) (l0_1 : List (S64)) (a1 : Int) : Option (List Int × Bool) := (impl_IsGraph.f k a0_0 l0_1).bind fun t524 => (if t524 = true then ((impl_isKind.f a1).bind fun t525 => (if t525 = true then ((impl_Graph_best.f k a0_0 l0_1 a1).bind fun t526 => (some (t526, true))) else (some (([] : List Int), false)))) else (some (([] : List Int), false)))
set_option maxHeartbeats 8000000 in
set_option maxRecDepth 100000 in
theorem impl_BestOfKind.calls (k : Nat) (a0_0 : Int) (A0_1 : Option Addr) (c0_1 : Nat) (l0_1 : List (S64)) (a1 : Int) (r1 : List Int) (r2 : Bool) (w : World) (hr0_1 : Kd.C k64 w A0_1 l0_1.length l0_1) (hc0_1 : l0_1.length ≤ c0_1) (h : impl_BestOfKind.f k a0_0 l0_1 a1 = some (r1, r2)) :
 Calls Try.prog 25 #[.agg #[.int .i64 a0_0, .slice A0_1 l0_1.length c0_1], .int .i64 a1] w fun e w' => ∃ v0_ : Value, e = .returned (.tuple #[v0_, .bool r2]) ∧ Kd.R (Kd.int .i64) 3 w' w.heap.size (fun _ => True) v0_ r1 ∧ Below w.heap.size w w' := by
 have hu43 := Try.underlying43
 have HR0_1 := Aside0.mk hr0_1
 have HC0_1 := Aside0.mk hc0_1
 clear hr0_1 hc0_1
 have HB := zM (Below.refl w.heap.size w)
 have H : ((impl_IsGraph.f k a0_0 l0_1).bind fun t524 => (if t524 = true then ((impl_isKind.f a1).bind fun t525 => (if t525 = true then ((impl_Graph_best.f k a0_0 l0_1 a1).bind fun t526 => (some (t526, true))) else (some (([] : List Int), false)))) else (some (([] : List Int), false)))) = some (r1, r2) := h
 clear h
 replace H := Option.bind_eq_some_iff.mp H
 obtain ⟨t524, A30, H⟩ := H
 replace H : (if t524 = true then ((impl_isKind.f a1).bind fun t525 => (if t525 = true then ((impl_Graph_best.f k a0_0 l0_1 a1).bind fun t526 => (some (t526, true))) else (some (([] : List Int), false)))) else (some (([] : List Int), false))) = some (r1, r2) := H
 have A3 := Aside0.mk A30
 clear A30
 by_cases c4 : t524 = true
 · subst c4
   have H1 : ((impl_isKind.f a1).bind fun t525 => (if t525 = true then ((impl_Graph_best.f k a0_0 l0_1 a1).bind fun t526 => (some (t526, true))) else (some (([] : List Int), false)))) = some (r1, r2) := by rw [if_pos rfl] at H; exact H
   clear H
   have H := H1
   clear H1
   replace H := Option.bind_eq_some_iff.mp H
   obtain ⟨t525, A50, H⟩ := H
   replace H : (if t525 = true then ((impl_Graph_best.f k a0_0 l0_1 a1).bind fun t526 => (some (t526, true))) else (some (([] : List Int), false))) = some (r1, r2) := H
   have A5 := Aside0.mk A50
   clear A50
   by_cases c6 : t525 = true
   · subst c6
     have H1 : ((impl_Graph_best.f k a0_0 l0_1 a1).bind fun t526 => (some (t526, true))) = some (r1, r2) := by rw [if_pos rfl] at H; exact H
     clear H
     have H := H1
     clear H1
     replace H := Option.bind_eq_some_iff.mp H
     obtain ⟨t526, A70, H⟩ := H
     replace H : (some (t526, true)) = some (r1, r2) := H
     have A7 := Aside0.mk A70
     clear A70
     simp only [Option.some.injEq, Prod.mk.injEq] at H
     obtain ⟨rfl, rfl⟩ := H
     go_enter Try.func25, Try.ntmps25
     go_wp2_with (first | ((with_reducible refine gate_dst (N := 2) rfl ?_); refine zb (w := w) 2 #[.int .i64 a0_0, .slice A0_1 l0_1.length c0_1] 43 zB ?_; clear HB; intro gb523 w8 HB BK523 GW523; have GE523 := GW523; have hcz9_0 := zy BK523 0; have hcz9_1 := zy BK523 1; have hfz9_0 := blk_frozen BK523.out 0; have hfz9_1 := blk_frozen BK523.out 1) | ((with_reducible refine gate_callee (f := 82) rfl ?_); refine zc 7 Try.func82 #[.agg #[.int .i64 a0_0, .slice A0_1 l0_1.length c0_1]] ?_; (with_reducible refine (impl_IsGraph.calls k a0_0 _ _ l0_1 true _ ?side1 ?side2 A3.out).mono ?_); (case side1 => exact zC (Kd.C_below HR0_1.out HB.out)); (case side2 => exact HC0_1.out); rintro e w10 ⟨rfl, hb⟩; refine ⟨_, rfl, ?_⟩; replace BK523 := zM (blk_below (g := gb523) (o := .cells #[.int .i64 a0_0, .slice A0_1 l0_1.length c0_1] 43 (0, 0)) (zK BK523.out) hb); replace HB := zM (below_step zB hb); (try clear hb); (try clear hb2); (try clear hk); (try clear hi)) | (go_at_call 83; (with_reducible refine (impl_isKind.calls a1 true _ A5.out).mono ?_); rintro e w' ⟨rfl, ⟨nd, rfl⟩⟩; have hcz11_0 := zy BK523 0; have hcz11_1 := zy BK523 1; have hfz11_0 := blk_frozen BK523.out 0; have hfz11_1 := blk_frozen BK523.out 1) | ((with_reducible refine gate_callee (f := 84) rfl ?_); refine zc 16 Try.func84 #[.agg #[.int .i64 a0_0, .slice A0_1 l0_1.length c0_1], .int .i64 a1] ?_; (with_reducible refine (impl_Graph_best.calls k a0_0 _ _ l0_1 a1 t526 _ ?side1 ?side2 A7.out).mono ?_); (case side1 => exact zC (Kd.C_below HR0_1.out zB)); (case side2 => exact HC0_1.out); rintro e w12 ⟨v527, rfl, ho0, hb⟩; refine ⟨_, rfl, ?_⟩; have HO528 := zM (Kd.R_lower ho0 (below_size zB)); replace BK523 := zM (blk_below (g := gb523) (o := .cells #[.int .i64 a0_0, .slice A0_1 l0_1.length c0_1] 43 (0, 0)) (zK BK523.out) hb); replace HB := zM (below_step zB hb); (try clear hb); (try clear hb2); (try clear hk); (try clear hi); (try clear ho0)))
     go_ret2
     exact ⟨_, by first | rfl | (simp [errW_none, errW_some] <;> rfl) | (simp [*, errW_none, errW_some] <;> rfl), by (with_reducible repeat (first | apply Kd.R_alloc | apply Kd.R_drewN | apply Kd.R_drew)); exact HO528.out, zB⟩
   · replace c6 := Bool.eq_false_iff.mpr c6
     subst c6
     have H1 : (some (([] : List Int), false)) = some (r1, r2) := by rw [if_neg (show ¬ (false = true) by decide)] at H; exact H
     clear H
     have H := H1
     clear H1
     simp only [Option.some.injEq, Prod.mk.injEq] at H
     obtain ⟨rfl, rfl⟩ := H
     go_enter Try.func25, Try.ntmps25
     go_wp2_with (first | ((with_reducible refine gate_dst (N := 2) rfl ?_); refine zb (w := w) 2 #[.int .i64 a0_0, .slice A0_1 l0_1.length c0_1] 43 zB ?_; clear HB; intro gb523 w13 HB BK523 GW523; have GE523 := GW523; have hcz14_0 := zy BK523 0; have hcz14_1 := zy BK523 1; have hfz14_0 := blk_frozen BK523.out 0; have hfz14_1 := blk_frozen BK523.out 1) | ((with_reducible refine gate_callee (f := 82) rfl ?_); refine zc 7 Try.func82 #[.agg #[.int .i64 a0_0, .slice A0_1 l0_1.length c0_1]] ?_; (with_reducible refine (impl_IsGraph.calls k a0_0 _ _ l0_1 true _ ?side1 ?side2 A3.out).mono ?_); (case side1 => exact zC (Kd.C_below HR0_1.out HB.out)); (case side2 => exact HC0_1.out); rintro e w15 ⟨rfl, hb⟩; refine ⟨_, rfl, ?_⟩; replace BK523 := zM (blk_below (g := gb523) (o := .cells #[.int .i64 a0_0, .slice A0_1 l0_1.length c0_1] 43 (0, 0)) (zK BK523.out) hb); replace HB := zM (below_step zB hb); (try clear hb); (try clear hb2); (try clear hk); (try clear hi)) | (go_at_call 83; (with_reducible refine (impl_isKind.calls a1 false _ A5.out).mono ?_); rintro e w' ⟨rfl, ⟨nd, rfl⟩⟩))
     go_ret2
     exact ⟨_, by first | rfl | (simp [errW_none, errW_some] <;> rfl) | (simp [*, errW_none, errW_some] <;> rfl), by first | exact Kd.R_nil _ _ _ _ _ | exact Kd.N_nil _ _ _ _ _ | exact Kd.V_nil _ _ _ _ _ | exact Kd.Q_nil _ _ _ _ _ | exact Kd.S_nil _ _ _ _ _, zB⟩
 · replace c4 := Bool.eq_false_iff.mpr c4
   subst c4
   have H1 : (some (([] : List Int), false)) = some (r1, r2) := by rw [if_neg (show ¬ (false = true) by decide)] at H; exact H
   clear H
   have H := H1
   clear H1
   simp only [Option.some.injEq, Prod.mk.injEq] at H
   obtain ⟨rfl, rfl⟩ := H
   go_enter Try.func25, Try.ntmps25
   go_wp2_with (first | ((with_reducible refine gate_dst (N := 2) rfl ?_); refine zb (w := w) 2 #[.int .i64 a0_0, .slice A0_1 l0_1.length c0_1] 43 zB ?_; clear HB; intro gb523 w16 HB BK523 GW523; have GE523 := GW523; have hcz17_0 := zy BK523 0; have hcz17_1 := zy BK523 1; have hfz17_0 := blk_frozen BK523.out 0; have hfz17_1 := blk_frozen BK523.out 1) | ((with_reducible refine gate_callee (f := 82) rfl ?_); refine zc 7 Try.func82 #[.agg #[.int .i64 a0_0, .slice A0_1 l0_1.length c0_1]] ?_; (with_reducible refine (impl_IsGraph.calls k a0_0 _ _ l0_1 false _ ?side1 ?side2 A3.out).mono ?_); (case side1 => exact zC (Kd.C_below HR0_1.out HB.out)); (case side2 => exact HC0_1.out); rintro e w18 ⟨rfl, hb⟩; refine ⟨_, rfl, ?_⟩; replace BK523 := zM (blk_below (g := gb523) (o := .cells #[.int .i64 a0_0, .slice A0_1 l0_1.length c0_1] 43 (0, 0)) (zK BK523.out) hb); replace HB := zM (below_step zB hb); (try clear hb); (try clear hb2); (try clear hk); (try clear hi)))
   go_ret2
   exact ⟨_, by first | rfl | (simp [errW_none, errW_some] <;> rfl) | (simp [*, errW_none, errW_some] <;> rfl), by first | exact Kd.R_nil _ _ _ _ _ | exact Kd.N_nil _ _ _ _ _ | exact Kd.V_nil _ _ _ _ _ | exact Kd.Q_nil _ _ _ _ _ | exact Kd.S_nil _ _ _ _ _, zB⟩

end Go.Proofs.Ythnojbafclglpaa.P
namespace Go.Proofs.Ythnojbafclglpaa.P
open Go.RowKit Go.Proofs.YthnojbafclglpaaW.PrintWords Go.Proofs.YthnojbafclglpaaW.PrintLast Go.Proofs.YthnojbafclglpaaW.PrintMore
attribute [local go_sem] max2_int min2_int max_two min_two max_three min_three max_four min_four   -- for this text's walks alone
set_option linter.unusedVariables false
set_option linter.unusedSimpArgs false

/-! ### laws_markIntS: function 20 -/
def laws_markIntS.l0 : Nat → List Int → Int → Int → Option (Int × List Int)
 | 0, _, _, _ => none
 | k + 1, x0, x1, x5 => if x5 < (x0.length : Int) then (if 0 ≤ x5 then (laws_markIntS.l0 k (x0.set (x5 : Int).toNat x1) (wrap64 (x1 + 1)) (wrap64 (x5 + 1))) else (none)) else (some (x1, x0))
def laws_markIntS.f (k : Nat) (l0 : List Int) (a1 : Int) : Option (Int × List Int) := laws_markIntS.l0 k l0 a1 0
set_option maxHeartbeats 8000000 in
set_option maxRecDepth 100000 in
theorem laws_markIntS.calls (k : Nat) (P0_ : Nat → Prop) (u9000_ : Value) (l0 : List Int) (a1 : Int) (r1 : Int) (r2 : List Int) (w0 w : World) (hB : Below w0.heap.size w0 w) (ho0 : Kd.R (Kd.int .i64) 3 w w0.heap.size P0_ u9000_ l0) (h : laws_markIntS.f k l0 a1 = some (r1, r2)) :
 Calls Try.prog 20 #[u9000_, .int .i64 a1] w fun e w' => e = .returned (.int .i64 r1) ∧ Kd.R (Kd.int .i64) 3 w' w0.heap.size (fun k_ => (P0_ k_ ∨ w.heap.size ≤ k_)) u9000_ r2 ∧ Below w0.heap.size w0 w' ∧ Kept w w' (fun k_ => P0_ k_) := by
 have HO0 := zM (show Kd.R (Kd.int .i64) 3 w w0.heap.size (fun k_ => (P0_ k_ ∨ w.heap.size ≤ k_)) u9000_ l0 from Kd.R_mono ho0 (fun k_ hk => (.inl hk)))
 have HK := zM (Kept.refl w (fun k_ => P0_ k_))
 have HW0 := Aside0.mk hB.size
 have HB := Aside0.mk hB
 clear hB
 have H : (laws_markIntS.l0 k l0 a1 0) = some (r1, r2) := h
 clear h
 have H' := Aside0.mk H
 clear H
 go_enter Try.func20, Try.ntmps20
 go_wp2
 go_loopg [1, 5] k (fun kq v1 v5 w' => ∃ (x0_1 : List Int) (x1_1 : Int) (x5_1 : Int), v1 = .int .i64 x1_1 ∧ v5 = .int .i64 x5_1 ∧ Aside0 (laws_markIntS.l0 kq x0_1 x1_1 x5_1 = some (r1, r2)) ∧ Aside0 (kq ≤ k) ∧ Aside0 (Kd.R (Kd.int .i64) 3 w' w0.heap.size (fun k_ => (P0_ k_ ∨ w.heap.size ≤ k_)) u9000_ x0_1) ∧ Aside0 (Kept w w' (fun k_ => P0_ k_)) ∧ Aside0 (Below w0.heap.size w0 w'))
 case atStart => exact ⟨(l0), (a1), (0), (by first | rfl | (simp; done) | (simp [*]; done)), (by first | rfl | (simp; done) | (simp [*]; done)), H', ⟨Nat.le_refl _⟩, ⟨zR HO0.out⟩, ⟨by repeat (first | (with_reducible first | exact HK.out | apply Kept.alloc | apply Kept.drewN | apply Kept.drew) | exact HK.out)⟩, ⟨zB⟩⟩
 case round =>
  clear H'
  try clear c2
  try clear p2
  obtain ⟨x0_1, x1_1, x5_1, rfl, rfl, HA, HK1, HO_0, HK, HB⟩ := hrel
  cases gk with
  | zero => exact absurd HA.out (by simp [laws_markIntS.l0])
  | succ k1 =>
   have H := HA.out
   clear HA
   simp only [laws_markIntS.l0] at H
   by_cases c3 : x5_1 < (x0_1.length : Int)
   · rw [if_pos c3] at H
     have c3b0 := decide_eq_true c3
     clear c3
     by_cases c4 : 0 ≤ x5_1
     · rw [if_pos c4] at H
       have c4b0 := decide_eq_true c4
       clear c4
       obtain ⟨y329, hy329⟩ : ∃ y_ : List Int, y_ = (x0_1.set (x5_1 : Int).toNat x1_1) := ⟨_, rfl⟩
       replace H : (laws_markIntS.l0 k1 y329 (wrap64 (x1_1 + 1)) (wrap64 (x5_1 + 1))) = some (r1, r2) := by first | (rw [hy329]; with_reducible exact H) | (have H2_ := (Option.bind_some _ _).symm.trans H; rw [hy329]; with_reducible exact H2_) | (have H2_ := (Option.bind_some _ _).symm.trans H; with_reducible exact H2_) | with_reducible exact H | (rw [hy329]; exact H) | exact H
       have Ny329 := Aside0.mk hy329
       clear hy329
       have H' := Aside0.mk H
       clear H
       obtain ⟨Ao6, co6, eo6⟩ := Kd.R_slice HO_0.out
       subst eo6
       have p5 : 0 ≤ (x5_1 : Int) := of_decide_eq_true zA
       have q5 : (x5_1 : Int) < ((x0_1.length : Int) : Int) := of_decide_eq_true zA
       obtain ⟨go5, co5, eo5, gb5, gl5, cl5, HG5⟩ := Kd.R_form HO_0.out (by omega)
       (first | cases eo5 | (injection eo5 with ea_ en_ ec_; (first | subst ea_ | (injection ea_ with ea_; subst ea_)); subst ec_; clear en_))
       have GB5 := Aside0.mk gb5
       have GG5 := Aside0.mk HG5
       clear gb5 gl5 HG5
       have HMgo5 := zM (show (P0_ go5 ∨ w.heap.size ≤ go5) from (HO_0.out.1 _ rfl))
       obtain ⟨hx5_0, hf5_0⟩ := Kd.R_celln 0 HO_0.out (x5_1 : Int) p5 q5
       replace p5 := eq_true p5
       replace q5 := eq_true q5
       have HP7 := Kd.R_putg HO_0.out (x5_1 : Int) x1_1
       go_wp2_with (first | ((with_reducible refine gate_store (t := 3) (p := 15) rfl ?_); refine store_event (t := 3) (p := 15) (v := ?vo_w8) (w1 := (wr.setCell ⟨go5, (x5_1 : Int).toNat, none⟩ (.int .i64 x1_1))) ?hg ?ho ?hn ?hr ?_; (case ho => rfl); (case hg => rfl); (case hn => rfl); (case hr => first | (go_simp; done) | (go_simp; rfl)); intro w8 hw; have hg : wr.grownBy w8 (some go5) := (by rw [hw]; exact HP7.2); have hp_ : Kd.R (Kd.int .i64) 3 w8 w0.heap.size (fun k_ => (P0_ k_ ∨ w.heap.size ≤ k_)) (.slice (some ⟨go5, 0, none⟩) x0_1.length co6) y329 := (by rw [hw, Ny329.out]; exact HP7.1); clear HP7; replace HB := zM ((by rw [hw]; exact below_set (HB.out) GB5.out : Below w0.heap.size w0 w8)); replace HK := zM (Kept.of_grown (S := (fun k_ => P0_ k_)) hg (by repeat (first | (with_reducible first | exact HK.out | apply Kept.alloc | apply Kept.drewN | apply Kept.drew) | exact HK.out)) (fun k_ e_ => (HO_0.out.1 k_ e_))); replace HO_0 := zM (hp_); clear hg hw hp_))
       go_roundg k1
       case measure => have := HK1.out; omega
       case rel => exact ⟨(y329), (wrap64 (x1_1 + 1)), (wrap64 (x5_1 + 1)), (by first | rfl | (simp; done) | (simp [*]; done)), (by first | rfl | (simp; done) | (simp [*]; done)), H', ⟨by have := HK1.out; omega⟩, ⟨zR HO_0.out⟩, ⟨by repeat (first | (with_reducible first | exact HK.out | apply Kept.alloc | apply Kept.drewN | apply Kept.drew) | exact HK.out)⟩, ⟨zB⟩⟩
     · rw [if_neg c4] at H
       exact absurd H (by simp)
   · rw [if_neg c3] at H
     have c3b0 : decide (x5_1 < (x0_1.length : Int)) = false := decide_eq_false c3
     clear c3
     simp only [Option.some.injEq, Prod.mk.injEq] at H
     obtain ⟨rfl, rfl⟩ := H
     obtain ⟨Ao9, co9, eo9⟩ := Kd.R_slice HO_0.out
     subst eo9
     go_wp2
     go_ret
     exact ⟨by first | rfl | (simp [errW_none, errW_some] <;> rfl) | (simp [*, errW_none, errW_some] <;> rfl), by (with_reducible repeat (first | apply Kd.R_alloc | apply Kd.R_drewN | apply Kd.R_drew)); exact HO_0.out, by repeat (first | (with_reducible first | exact HB.out | apply below_alloc | apply pw_below_drewN | apply below_drew1) | exact HB.out), by repeat (first | (with_reducible first | exact HK.out | apply Kept.alloc | apply Kept.drewN | apply Kept.drew) | exact HK.out)⟩

end Go.Proofs.Ythnojbafclglpaa.P
namespace Go.Proofs.Ythnojbafclglpaa.P
open Go.RowKit Go.Proofs.YthnojbafclglpaaW.PrintWords Go.Proofs.YthnojbafclglpaaW.PrintLast Go.Proofs.YthnojbafclglpaaW.PrintMore
set_option linter.unusedVariables false
section
variable {α : Type} {d : Kd α} {e base : Nat} {ok S : Nat → Prop} {w W W1 : World} {v : Value} {xs : List α} {g : Nat} {o : Obj}
theorem uR (hB : Below w.heap.size w W) (h : d.R e W1 W.heap.size (fun _ => True) v xs) : Aside0 (d.R e W1 w.heap.size (fun k => W.heap.size ≤ k ∧ k < W1.heap.size) v xs) :=
  ⟨Kd.R_mono (Kd.R_lower (Kd.R_bound h) (below_size hB)) (fun k hk => ⟨hk.2.1, hk.2.2.1⟩)⟩
theorem uV (hB : Below w.heap.size w W) (h : Kd.V d e W1 W.heap.size (fun k_ => W.heap.size ≤ k_) v xs) : Aside0 (Kd.V d e W1 w.heap.size (fun k => W.heap.size ≤ k ∧ k < W1.heap.size) v xs) :=
  ⟨Kd.V_mono (Kd.V_lower (Kd.V_bound h) (below_size hB)) (fun k hk => ⟨hk.1, hk.2⟩)⟩
theorem uVb (h : Aside0 (Kd.V d e W base ok v xs)) (hb : Below W.heap.size W W1) : Aside0 (Kd.V d e W1 base ok v xs) := ⟨Kd.V_below h.out hb⟩
theorem uVk (h : Aside0 (Kd.V d e W base ok v xs)) (hk : Kept W W1 S) (hne : ∀ k, ok k → ¬ S k) : Aside0 (Kd.V d e W1 base ok v xs) := ⟨Kd.V_kept h.out hk hne⟩
theorem uRb (h : Aside0 (d.R e W base ok v xs)) (hb : Below W.heap.size W W1) : Aside0 (d.R e W1 base ok v xs) := ⟨Kd.R_below h.out hb⟩
theorem uKb (h : Aside0 (W.heap[g]? = some o)) (hb : Below W.heap.size W W1) : Aside0 (W1.heap[g]? = some o) := ⟨blk_below h.out hb⟩
theorem uRk (h : Aside0 (d.R e W base ok v xs)) (hk : Kept W W1 S) (hne : ∀ k, ok k → ¬ S k) : Aside0 (d.R e W1 base ok v xs) := ⟨Kd.R_kept h.out hk hne⟩
theorem uKk (h : Aside0 (W.heap[g]? = some o)) (hk : Kept W W1 S) (hne : ¬ S g) : Aside0 (W1.heap[g]? = some o) := ⟨blk_kept h.out hk hne⟩
/-- A struct of two cells is stored into the call's own block. -/
theorem uBox {P : Program} {f : FuncId} {args : Array Value} {Q : Ending → World → Prop} {t : TypeId} {x y a b : Value} (hb : Aside0 (W.heap[g]? = some (.cells #[x, y] t (0, 0)))) (hB : Aside0 (Below w.heap.size w W)) (hg : w.heap.size ≤ g)
    (h : ∀ W', Aside0 (W'.heap[g]? = some (.cells #[a, b] t (0, 0))) → Kept W W' (fun k => k = g) → Aside0 (Below w.heap.size w W') → Calls P f args W' Q) : Calls P f args ((W.setCell ⟨g, 0, none⟩ a).setCell ⟨g, 1, none⟩ b) Q :=
  h _ ⟨blk_put (cs := #[a, y]) (blk_put (cs := #[x, y]) hb.out 0 a rfl) 1 b rfl⟩ (Kept.setCell (Kept.setCell (Kept.refl W (fun k => k = g)) (p := ⟨g, 0, none⟩) (.inl rfl) a) (p := ⟨g, 1, none⟩) (.inl rfl) b) ⟨below_set (below_set hB.out hg) hg⟩
theorem uArgs {P : Program} {f : FuncId} {args args' : Array Value} {Q : Ending → World → Prop} (h : args = args') (k : Calls P f args' W Q) : Calls P f args W Q := h ▸ k
end
end Go.Proofs.Ythnojbafclglpaa.P
