/- impl's (Graph).sets: all sets of nodes of which something is so, in order; for every world. -/
import Derived.Test.YtadjbmcfgjmhkaaGreatStuckSetsG15
import Derived.Test.YtadjbmcfgjmhkaaGreatStuckSetsG16
import Derived.Test.YtadjbmcfgjmhkaaGreatStuckSetsG17
import Derived.Test.YtadjbmcfgjmhkaaGreatStuckSetsG5
import Derived.Deep.RegionHeld3
import Derived.Test.YtadjbmcfgjmhkaaGreatStuckSetsG6
namespace Go.Proofs.YtadjbmcfgjmhkaaGreat.P
open Go.RowKit Go.Proofs.YtadjbmcfgjmhkaaGreatW.PrintWords Go.Proofs.YtadjbmcfgjmhkaaGreatW.PrintLast Go.Proofs.YtadjbmcfgjmhkaaGreatW.PrintMore
set_option linter.unusedVariables false
set_option linter.unusedSimpArgs false

theorem compare_CmpL : CmpL 87 cmpL := by
  intro W x y A B c c' hx hc hy hc'
  refine (slices_Compare_int_int.calls (x.length + 1) A c x B c' y (cmpL x y) W hx hc hy hc' (slices_Compare_at x y hx.2.1 _ (Nat.lt_succ_self _))).mono ?_
  rintro e w' ⟨rfl, ⟨n, rfl⟩⟩
  exact ⟨rfl, n, #[], (Sort.grow_empty _).symm⟩
theorem ltOf_cmpL : ltOf cmpL = befL := by
  funext x y
  unfold ltOf
  rw [Bool.eq_iff_iff, decide_eq_true_eq]
  exact cmpL_neg x y
theorem swo_befL : Sort.SWO befL := ⟨befL_irrefl, fun x y z => befL_trans x y z, fun x y z => befL_ntrans⟩
theorem sortLists.calls (P0_ : Nat → Prop) (u9000_ : Value) (l0 : List (List Int)) (w0 w : World) (hB : Below w0.heap.size w0 w) (ho0 : Kd.S (Kd.slice 3 (Kd.int .i64)) 25 w w0.heap.size P0_ u9000_ l0) (hlen : l0.length < 4611686018427387904) :
    Calls Tryz.prog 86 #[u9000_, .func (.func 87) #[] #[]] w fun e w' => e = .returned (.tuple #[]) ∧ Kd.S (Kd.slice 3 (Kd.int .i64)) 25 w' w0.heap.size (fun k_ => (P0_ k_ ∨ w.heap.size ≤ k_)) u9000_ (sortLL l0) ∧ Below w0.heap.size w0 w' ∧ Kept w w' (fun k_ => P0_ k_) := by
  have h := sortFunc_lists Tryz.laysSlF6_f86 Tryz.laysSlF06_f86 86 rfl rfl cmpL (by rw [ltOf_cmpL]; exact swo_befL) (by rw [ltOf_cmpL]; exact befL_tri) 87 (enters_of Tryz.func87 (by kernel_rfl) rfl) compare_CmpL P0_ u9000_ l0 w0 w hB ho0 hlen
  rw [ltOf_cmpL] at h
  exact h
/-- The sets of the codes below n of which p is so. -/
def codesL (p : Int → Bool) (n : Nat) : List (List Int) := (selI p n 0).map fun b => selI (hasI b) 8 0
theorem codesL_succ (p : Int → Bool) (n : Nat) : codesL p (n + 1) = codesL p n ++ (if p (n : Int) = true then [selI (hasI (n : Int)) 8 0] else []) := by
  unfold codesL
  rw [selI_add, List.map_append]
  congr 1
  simp only [selI, List.append_nil, Int.zero_add]
  split <;> rfl
theorem codesL_len (p : Int → Bool) (n : Nat) : (codesL p n).length ≤ n := by
  unfold codesL
  rw [List.length_map]
  exact selI_len p n 0
theorem allI_pow : ∀ n : Fin 9, allI n = ((2 ^ n.val - 1 : Nat) : Int) := by decide +kernel
theorem all_at (a : Int) (l : List S69) (h0 : 0 ≤ a) (h8 : a ≤ 8) : impl_Graph_all.f a l = some ((2 ^ a.toNat - 1 : Nat) : Int) := by
  unfold impl_Graph_all.f
  rw [if_pos h0]
  obtain ⟨i, rfl⟩ := fin_of (n := 9) h0 (by omega)
  exact congrArg some (allI_pow i)
/-- Function g, bound to the variables lb, answers p of a set's code; memory that was there stays. -/
def PredN (g : Nat) (lb : Array Value) (p : Int → Bool) (N : Nat) (w : World) : Prop :=
  ∀ (W : World) (b : Int), 0 ≤ b → b < (N : Int) → Below w.heap.size w W → Calls Tryz.prog g (#[.int .u64 b] ++ lb) W fun e w' => e = .returned (.bool (p b)) ∧ Below W.heap.size W w'
theorem PredN.mono {g : Nat} {lb : Array Value} {p : Int → Bool} {N : Nat} {w w' : World} (h : PredN g lb p N w) (hb : Below w.heap.size w w') : PredN g lb p N w' := fun W b h0 h1 h2 => h W b h0 h1 (below_step hb h2)
set_option maxRecDepth 100000 in
set_option maxHeartbeats 2000000 in
theorem sets_calls (g : Nat) (lb : Array Value) (eg : ∀ (args : Array Value) (w : World), (callFunc g args).run Tryz.prog w = .ok (.enter g args) w) (p : Int → Bool) (a0 : Int) (h0 : 0 ≤ a0) (h8 : a0 ≤ 8) (A1 : Option Addr) (c1 : Nat) (l1 : List S69) (w : World)
    (hr : Kd.C k69 w A1 l1.length l1) (hc : l1.length ≤ c1) (hp : PredN g lb p (2 ^ a0.toNat) w) :
    Calls Tryz.prog 97 #[.agg #[.int .i64 a0, .slice A1 l1.length c1], .func (.func g) #[] lb] w fun e w' => ∃ v : Value, e = .returned v ∧ Kd.S (Kd.slice 3 (Kd.int .i64)) 25 w' w.heap.size (fun _ => True) v (sortLL (codesL p (2 ^ a0.toNat))) ∧ Below w.heap.size w w' := by
  have hu43 := Tryz.underlying30
  have hpow : 2 ^ a0.toNat ≤ 256 := Nat.pow_le_pow_right (n := 2) (by decide) (show a0.toNat ≤ 8 by omega)
  have hpos : 0 < 2 ^ a0.toNat := Nat.pow_pos (by decide)
  obtain ⟨M, hM⟩ : ∃ M : Nat, 2 ^ a0.toNat = M + 1 := ⟨2 ^ a0.toNat - 1, by omega⟩
  have hall := all_at a0 l1 h0 h8
  rw [hM, Nat.add_sub_cancel] at hall
  rw [hM] at hpow hp ⊢
  have HAL := zM hall
  have HM := zM hpow
  have HR := zM hr
  have HC := zM hc
  have HP := zM hp
  have HB := zM (Below.refl w.heap.size w)
  clear hr hc hp hall hpow hpos hM h0 h8
  go_enter Tryz.func97, Tryz.ntmps97
  go_wp2_with (first | ((with_reducible refine gate_dst (N := 2) rfl ?_); refine zb (w := w) 2 #[.int .i64 a0, .slice A1 l1.length c1] 30 zB ?_; clear HB; intro gb w3 HB BK GW) | ((with_reducible refine gate_dst (N := 7) rfl ?_); refine Kd.S_lit (Kd.slice 3 (Kd.int .i64)) _ 25 ?hg (N := 7) ?hd (xs := ([] : List (List Int))) (inner := []) (ok := fun _ => True) (okp := fun _ => True) ?hr ?hp (fun _ hk => hk) trivial (Below.refl _ _) (Nat.le_refl _) (by simp) ?_; (case hd => rfl); (case hg => rfl); (case hr => first | (go_simp; done) | (go_simp; rfl)); (case hp => exact (Reps.none _ _)); intro v4 w4 ho5 hb hg_ hnew_; clear hg_ hnew_; have HO := zM (Kd.S_lower ho5 (below_size zB)); replace BK := zM (blk_below (zK BK.out) hb); replace HB := zM (below_step zB hb); clear hb ho5))
  go_loopg [5, 6] (M + 2) (fun kq v5 v6 w' => ∃ (m : Nat), v6 = .int .u64 (m : Int) ∧ Aside0 (m ≤ M + 1) ∧ Aside0 (kq = M + 2 - m) ∧ Aside0 (Kd.S (Kd.slice 3 (Kd.int .i64)) 25 w' w.heap.size (fun _ => True) v5 (codesL p m)) ∧ Aside0 (w'.heap[gb]? = some (.cells #[.int .i64 a0, .slice A1 l1.length c1] 30 (0, 0))) ∧ Aside0 (Below w.heap.size w w'))
  case atStart => exact ⟨0, by first | rfl | (simp; done), ⟨Nat.zero_le _⟩, ⟨by omega⟩, HO, BK, HB⟩
  case round =>
    clear HO BK HB
    obtain ⟨m, rfl, HM1, HK1, HO, BK, HB⟩ := hrel
    have hcz0 := zy BK 0
    have hcz1 := zy BK 1
    have hfz0 := blk_frozen BK.out 0
    have hfz1 := blk_frozen BK.out 1
    by_cases c1_ : m ≤ M
    · have q1 : (m : Int) ≤ (M : Int) := by omega
      have c1b : decide ((m : Int) ≤ (M : Int)) = true := decide_eq_true q1
      have c1c : decide (m ≤ M) = true := decide_eq_true c1_
      have HW := zM (show IntKind.u64.wrap ((m : Int) + 1) = ((m + 1 : Nat) : Int) by have := HM.out; show ((m : Int) + 1) % 18446744073709551616 = _; omega)
      have HLe := zM c1_
      have HX := zM (HP.out.mono HB.out)
      have HLn := zM (codesL_len p m)
      have HS := zM (codesL_succ p m)
      obtain ⟨kf, hf⟩ := Ev.rounds (bag_list_ev (m : Int))
      have HF := zM hf
      clear q1 c1_ hf
      cases hq : p (m : Int) with
      | true =>
        rw [hq, if_pos rfl] at HS
        have HQ := zM hq
        clear hq
        generalize codesL p m = xs at HO HLn HS
        go_wp2_with (first
          | (go_at_call 122; refine (impl_Graph_all.calls a0 _ _ l1 (M : Int) _ (zC (Kd.C_below HR.out HB.out)) HC.out HAL.out).mono ?_; rintro e w5 ⟨rfl, hb⟩; replace HO := zM (Kd.S_below HO.out hb); replace BK := zM (blk_below (zK BK.out) hb); replace HX := zM (HX.out.mono hb); replace HB := zM (below_step zB hb); clear hb)
          | (go_at_fn g; refine (HX.out _ (m : Int) (by omega) (by have := HLe.out; omega) (Below.refl _ _)).mono ?_; rw [HQ.out]; rintro e w6 ⟨rfl, hb⟩; replace HO := zM (Kd.S_below HO.out hb); replace BK := zM (blk_below (zK BK.out) hb); replace HB := zM (below_step zB hb); clear hb)
          | (go_at_call 76; refine (impl_bag_list.calls kf _ (selI (hasI (m : Int)) 8 0) _ HF.out).mono ?_; rintro e w7 ⟨v7, rfl, ho0, hb⟩; replace HO := zM (Kd.S_elder' HO.out (Kd.R_base ho0) hb); have HI := zM (Kd.R_lower ho0 (below_size zB)); replace BK := zM (blk_below (zK BK.out) hb); replace HB := zM (below_step zB hb); clear ho0 hb; generalize selI (hasI (m : Int)) 8 0 = row at HI HS; obtain ⟨Ao, co, eo⟩ := Kd.R_slice HI.out; subst eo)
          | ((with_reducible refine gate_builtin (b := .append) (xs := #[.tmp 17, .tmp 20]) rfl ?_); at_builtin; refine Kd.S_append (Kd.slice 3 (Kd.int .i64)) (w0 := w) w.heap.size rfl (.tmp 17) (.tmp 20) 27 25 (.slice none 0 0) 24 rfl Tryz.underlying27 info25 rfl (by decide) (by omega) u5 xs row [.slice Ao row.length co] (fun _ => True) (fun k_ => some k_ = (.slice Ao row.length co : Value).ownBlock) rfl rfl ?aP (fun k_ hk_ => ((Kd.R_mono (ok' := fun k_ => ((fun _ => True)) k_ ∧ some k_ ≠ (u5 : Value).ownBlock) (Kd.R_apart' (HI.out) (Kd.S_typed HO.out) (by decide)) (fun k_ hk => ⟨trivial, hk.2⟩))).1 k_ hk_.symm) ?aF ?aO ?aB ?aS ?aL ?_; (case aP => exact Kd.M_row (Kd.R_mono (Kd.R_tight rfl (Kd.R_mono (ok' := fun k_ => ((fun _ => True)) k_ ∧ some k_ ≠ (u5 : Value).ownBlock) (Kd.R_apart' (HI.out) (Kd.S_typed HO.out) (by decide)) (fun k_ hk => ⟨trivial, hk.2⟩))) (fun _ h_ => h_))); (case aB => exact zB); (case aF => exact (fun _ _ => trivial)); (case aO => exact (by (with_reducible repeat (first | apply Kd.S_alloc | apply Kd.S_drewN | apply Kd.S_drew)); exact Kd.S_mono HO.out (fun k_ hk => ⟨trivial, fun e_ => hk.2 e_⟩))); (case aS => exact (below_size zB)); (case aL => have := HLn.out; have := HM.out; have := HLe.out; omega); intro v8 w8 ho hb hg hat; rw [← HS.out] at ho; replace BK := zM (blk_grown (zK BK.out) hg (Kd.S_ne HO.out BK.out (by decide))); replace HB := zM hb; replace HO := zM ho; clear ho hb hg hat))
        go_roundg (M + 1 - m)
        case measure => have := HK1.out; have := HLe.out; omega
        case rel => exact ⟨m + 1, by first | rfl | exact congrArg (Value.int .u64) HW.out | (rw [HW.out]; done), ⟨by have := HLe.out; omega⟩, ⟨by omega⟩, HO, BK, HB⟩
      | false =>
        rw [hq, if_neg (by decide), List.append_nil] at HS
        have HQ := zM hq
        clear hq
        rw [← HS.out] at HO
        go_wp2_with (first
          | (go_at_call 122; refine (impl_Graph_all.calls a0 _ _ l1 (M : Int) _ (zC (Kd.C_below HR.out HB.out)) HC.out HAL.out).mono ?_; rintro e w5 ⟨rfl, hb⟩; replace HO := zM (Kd.S_below HO.out hb); replace BK := zM (blk_below (zK BK.out) hb); replace HX := zM (HX.out.mono hb); replace HB := zM (below_step zB hb); clear hb)
          | (go_at_fn g; refine (HX.out _ (m : Int) (by omega) (by have := HLe.out; omega) (Below.refl _ _)).mono ?_; rw [HQ.out]; rintro e w6 ⟨rfl, hb⟩; replace HO := zM (Kd.S_below HO.out hb); replace BK := zM (blk_below (zK BK.out) hb); replace HB := zM (below_step zB hb); clear hb))
        go_roundg (M + 1 - m)
        case measure => have := HK1.out; have := HLe.out; omega
        case rel => exact ⟨m + 1, by first | rfl | exact congrArg (Value.int .u64) HW.out | (rw [HW.out]; done), ⟨by have := HLe.out; omega⟩, ⟨by omega⟩, HO, BK, HB⟩
    · have q1 : ¬ (m : Int) ≤ (M : Int) := by omega
      have c1b : decide ((m : Int) ≤ (M : Int)) = false := decide_eq_false q1
      have c1c : decide (m ≤ M) = false := decide_eq_false c1_
      have hm : m = M + 1 := by have := HM1.out; omega
      have HE := zM hm
      have HLn := zM (codesL_len p m)
      clear q1 c1_ hm
      go_wp2_with (first
          | (go_at_call 122; refine (impl_Graph_all.calls a0 _ _ l1 (M : Int) _ (zC (Kd.C_below HR.out HB.out)) HC.out HAL.out).mono ?_; rintro e w5 ⟨rfl, hb⟩; replace HO := zM (Kd.S_below HO.out hb); replace BK := zM (blk_below (zK BK.out) hb); replace HB := zM (below_step zB hb); clear hb)
          | (go_at_call 86; refine (sortLists.calls (fun _ => True) _ (codesL p m) w _ HB.out HO.out (by have := HLn.out; have := HE.out; have := HM.out; omega)).mono ?_; rintro e w9 ⟨rfl, ho, hb, hk⟩; replace HO := zM (Kd.S_mono (ok' := fun _ => True) ho (fun _ _ => trivial)); replace HB := zM hb; clear ho hb hk))
      go_ret
      exact ⟨_, rfl, by rw [← HE.out]; exact HO.out, HB.out⟩
end Go.Proofs.YtadjbmcfgjmhkaaGreat.P
namespace Go.Proofs.YtadjbmcfgjmhkaaGreat.P
open Go.RowKit Go.Proofs.YtadjbmcfgjmhkaaGreatW.PrintWords Go.Proofs.YtadjbmcfgjmhkaaGreatW.PrintLast Go.Proofs.YtadjbmcfgjmhkaaGreatW.PrintMore
set_option linter.unusedVariables false
section
variable {α : Type} {d : Kd α} {e base : Nat} {ok S : Nat → Prop} {w W W1 : World} {v : Value} {xs : List α} {g : Nat} {o : Obj}
theorem uR (hB : Below w.heap.size w W) (h : d.R e W1 W.heap.size (fun _ => True) v xs) : Aside0 (d.R e W1 w.heap.size (fun k => W.heap.size ≤ k ∧ k < W1.heap.size) v xs) :=
  ⟨Kd.R_mono (Kd.R_lower (Kd.R_bound h) (below_size hB)) (fun k hk => ⟨hk.2.1, hk.2.2.1⟩)⟩
theorem uS (hB : Below w.heap.size w W) (h : Kd.S d e W1 W.heap.size (fun _ => True) v xs) : Aside0 (Kd.S d e W1 w.heap.size (fun k => W.heap.size ≤ k ∧ k < W1.heap.size) v xs) :=
  ⟨Kd.S_mono (Kd.S_lower (Kd.S_bound h) (below_size hB)) (fun k hk => ⟨hk.2.1, hk.2.2.1⟩)⟩
theorem uN (hB : Below w.heap.size w W) (h : Kd.N d e W1 W.heap.size (fun k_ => W.heap.size ≤ k_) v xs) : Aside0 (Kd.N d e W1 w.heap.size (fun k => W.heap.size ≤ k ∧ k < W1.heap.size) v xs) :=
  ⟨Kd.N_mono (Kd.N_lower (Kd.N_bound h) (below_size hB)) (fun k hk => ⟨hk.1, hk.2⟩)⟩
theorem uNb (h : Aside0 (Kd.N d e W base ok v xs)) (hb : Below W.heap.size W W1) : Aside0 (Kd.N d e W1 base ok v xs) := ⟨Kd.N_below h.out hb⟩
theorem uNk (h : Aside0 (Kd.N d e W base ok v xs)) (hk : Kept W W1 S) (hne : ∀ k, ok k → ¬ S k) : Aside0 (Kd.N d e W1 base ok v xs) := ⟨Kd.N_kept h.out hk hne⟩
theorem uRb (h : Aside0 (d.R e W base ok v xs)) (hb : Below W.heap.size W W1) : Aside0 (d.R e W1 base ok v xs) := ⟨Kd.R_below h.out hb⟩
theorem uSb (h : Aside0 (Kd.S d e W base ok v xs)) (hb : Below W.heap.size W W1) : Aside0 (Kd.S d e W1 base ok v xs) := ⟨Kd.S_below h.out hb⟩
theorem uKb (h : Aside0 (W.heap[g]? = some o)) (hb : Below W.heap.size W W1) : Aside0 (W1.heap[g]? = some o) := ⟨blk_below h.out hb⟩
theorem uRk (h : Aside0 (d.R e W base ok v xs)) (hk : Kept W W1 S) (hne : ∀ k, ok k → ¬ S k) : Aside0 (d.R e W1 base ok v xs) := ⟨Kd.R_kept h.out hk hne⟩
theorem uSk (h : Aside0 (Kd.S d e W base ok v xs)) (hk : Kept W W1 S) (hne : ∀ k, ok k → ¬ S k) : Aside0 (Kd.S d e W1 base ok v xs) := ⟨Kd.S_kept h.out hk hne⟩
theorem uKk (h : Aside0 (W.heap[g]? = some o)) (hk : Kept W W1 S) (hne : ¬ S g) : Aside0 (W1.heap[g]? = some o) := ⟨blk_kept h.out hk hne⟩
/-- A struct of two cells is stored into the call's own block. -/
theorem uBox {P : Program} {f : FuncId} {args : Array Value} {Q : Ending → World → Prop} {t : TypeId} {x y a b : Value} (hb : Aside0 (W.heap[g]? = some (.cells #[x, y] t (0, 0)))) (hB : Aside0 (Below w.heap.size w W)) (hg : w.heap.size ≤ g)
    (h : ∀ W', Aside0 (W'.heap[g]? = some (.cells #[a, b] t (0, 0))) → Kept W W' (fun k => k = g) → Aside0 (Below w.heap.size w W') → Calls P f args W' Q) : Calls P f args ((W.setCell ⟨g, 0, none⟩ a).setCell ⟨g, 1, none⟩ b) Q :=
  h _ ⟨blk_put (cs := #[a, y]) (blk_put (cs := #[x, y]) hb.out 0 a rfl) 1 b rfl⟩ (Kept.setCell (Kept.setCell (Kept.refl W (fun k => k = g)) (p := ⟨g, 0, none⟩) (.inl rfl) a) (p := ⟨g, 1, none⟩) (.inl rfl) b) ⟨below_set (below_set hB.out hg) hg⟩
theorem uArgs {P : Program} {f : FuncId} {args args' : Array Value} {Q : Ending → World → Prop} (h : args = args') (k : Calls P f args' W Q) : Calls P f args W Q := h ▸ k
end
end Go.Proofs.YtadjbmcfgjmhkaaGreat.P
namespace Go.Proofs.YtadjbmcfgjmhkaaGreat.P
open Go.RowKit Go.Proofs.YtadjbmcfgjmhkaaGreatW.PrintWords Go.Proofs.YtadjbmcfgjmhkaaGreatW.PrintLast Go.Proofs.YtadjbmcfgjmhkaaGreatW.PrintMore
set_option linter.unusedVariables false
set_option linter.unusedSimpArgs false

/-- Function g, with what it is bound to, tells st of two of the lists; memory that was there at w stays. -/
def StepAt (g : Nat) (bs cb : Array Value) (st : List Int → List Int → Bool) (ls : List (List Int)) (w : World) : Prop :=
  ∀ (W : World) (x y : List Int) (A B : Option Addr) (c c' : Nat), x ∈ ls → y ∈ ls → Below w.heap.size w W → Kd.C (Kd.int .i64) W A x.length x → x.length ≤ c → Kd.C (Kd.int .i64) W B y.length y → y.length ≤ c' →
    Calls Tryz.prog g (bs ++ (#[.slice A x.length c, .slice B y.length c'] ++ cb)) W fun e w' => e = .returned (.bool (st x y)) ∧ Below W.heap.size W w'
def rowSteps (st : List Int → List Int → Bool) (a : List Int) (i : Nat) : Nat → List (List Int) → List S69
  | _, [] => []
  | k, b :: t => (if st a b = true then [⟨(i : Int), (k : Int)⟩] else []) ++ rowSteps st a i (k + 1) t
def allSteps (st : List Int → List Int → Bool) : Nat → List (List Int) → List S69
  | _, [] => []
  | i, a :: t => rowSteps st a i (i + 1) t ++ allSteps st (i + 1) t
theorem rowSteps_len (st : List Int → List Int → Bool) (a : List Int) (i : Nat) (t : List (List Int)) : ∀ k, (rowSteps st a i k t).length ≤ t.length := by
  induction t with
  | nil => intro k; exact Nat.le_refl _
  | cons b t ih =>
    intro k
    have := ih (k + 1)
    simp only [rowSteps, List.length_append, List.length_cons]
    split <;> simp only [List.length_nil, List.length_singleton] <;> omega
theorem allSteps_len (st : List Int → List Int → Bool) (t : List (List Int)) : ∀ i, (allSteps st i t).length ≤ t.length * t.length := by
  induction t with
  | nil => intro i; exact Nat.le_refl _
  | cons b t ih =>
    intro i
    have h1 := ih (i + 1)
    have h2 := rowSteps_len st b i t (i + 1)
    simp only [allSteps, List.length_append, List.length_cons]
    have : (t.length + 1) * (t.length + 1) = t.length * t.length + t.length + t.length + 1 := by rw [Nat.add_mul, Nat.mul_add]; omega
    omega
theorem row_C {w : World} {base : Nat} {ok : Nat → Prop} {g n cap m c : Nat} {A : Option Addr} {xs : List (List Int)} (h : Kd.S (Kd.slice 3 (Kd.int .i64)) 25 w base ok (.slice (some ⟨g, 0, none⟩) n cap) xs) (q : Nat) (hq : q < n) (hc : w.cell? ⟨g, q, none⟩ = some (.slice A m c)) :
    m = (xs.getD q []).length ∧ m ≤ c ∧ Kd.C (Kd.int .i64) w A (xs.getD q []).length (xs.getD q []) := by
  obtain ⟨cs, _, hM, hcc⟩ := Kd.S_get h ([] : List Int) (q : Int) (by omega) (by omega)
  obtain ⟨u, rfl, hR⟩ := hM
  have h2 := hcc 0 u rfl
  have e : (⟨g, 0, none⟩ : Addr).add ((q : Int).toNat * (Kd.slice 3 (Kd.int .i64)).sz + 0) = ⟨g, q, none⟩ := by
    show (⟨g, 0, none⟩ : Addr).add ((q : Int).toNat * 1 + 0) = _
    rw [Int.toNat_natCast, Nat.mul_one, Nat.add_zero, add_plain]
  rw [e, hc] at h2
  obtain rfl := Option.some.inj h2
  rw [Int.toNat_natCast] at hR
  obtain ⟨h3, h4, h5⟩ := Kd.R_reads' hR
  exact ⟨h3, h4, h5⟩
/-- The head of a row. -/
theorem row_head {w : World} {base : Nat} {ok : Nat → Prop} {g n cap : Nat} {xs : List (List Int)} (h : Kd.S (Kd.slice 3 (Kd.int .i64)) 25 w base ok (.slice (some ⟨g, 0, none⟩) n cap) xs) (q : Nat) (hq : q < n) :
    ∃ A c, w.cell? ⟨g, q, none⟩ = some (.slice A (xs.getD q []).length c) := by
  obtain ⟨cs, _, hM, hcc⟩ := Kd.S_get h ([] : List Int) (q : Int) (by omega) (by omega)
  obtain ⟨u, rfl, hR⟩ := hM
  have h2 := hcc 0 u rfl
  have e : (⟨g, 0, none⟩ : Addr).add ((q : Int).toNat * (Kd.slice 3 (Kd.int .i64)).sz + 0) = ⟨g, q, none⟩ := by
    show (⟨g, 0, none⟩ : Addr).add ((q : Int).toNat * 1 + 0) = _
    rw [Int.toNat_natCast, Nat.mul_one, Nat.add_zero, add_plain]
  rw [e] at h2
  rw [Int.toNat_natCast] at hR
  obtain ⟨A, c, rfl, _⟩ := Kd.R_reads hR
  exact ⟨A, c, h2⟩
set_option maxRecDepth 100000 in
set_option maxHeartbeats 4000000 in
theorem spaceOf_calls (g : Nat) (bs cb : Array Value) (eg : ∀ (args : Array Value) (w : World), (callFunc g args).run Tryz.prog w = .ok (.enter g args) w) (st : List Int → List Int → Bool) (u : Value) (ls : List (List Int)) (w ws : World) (hB : Below w.heap.size w ws)
    (ho : Kd.S (Kd.slice 3 (Kd.int .i64)) 25 ws w.heap.size (fun _ => True) u ls) (hlen : ls.length ≤ 1024) (hst : StepAt g bs cb st ls w) :
    Calls Tryz.prog 62 #[u, .func (.func g) bs cb] ws fun e w' => ∃ v0_ v1_ : Value, e = .returned (.agg #[v0_, v1_]) ∧ Kd.S (Kd.slice 3 (Kd.int .i64)) 25 w' w.heap.size (fun _ => True) v0_ (sortLL ls) ∧ Kd.R k69 69 w' w.heap.size (fun _ => True) v1_ (allSteps st 0 (sortLL ls)) ∧ Below w.heap.size w w' := by
  have hu := Tryz.underlying52
  obtain ⟨Au, cu, eu⟩ := Kd.S_slice ho
  subst eu
  have HS := zM ho
  have HB := zM hB
  have HL := zM hlen
  have HT := zM hst
  clear ho hB hlen hst
  go_enter Tryz.func62, Tryz.ntmps62
  go_wp2_with (first
    | ((with_reducible refine gate_dst (N := 4) rfl ?_); refine ze 4 #[.slice none 0 0, .slice none 0 0] 52 ?_; intro g4 hg w1 hbox hb; have BK4 := zM hbox; replace HS := zM (Kd.S_below HS.out hb); have HG4 := zM (show w.heap.size ≤ g4 by rw [hg]; exact below_size HB.out); replace HB := zM (below_step HB.out hb); clear hg hbox hb)
    | ((with_reducible refine gate_dst (N := 5) rfl ?_); refine ze 5 #[.slice none 0 0, .slice none 0 0] 52 ?_; intro g5 hg w2 hbox hb; have BK5 := zM hbox; replace HS := zM (Kd.S_below HS.out hb); have HG5 := zM (show w.heap.size ≤ g5 by rw [hg]; exact below_size HB.out); replace HB := zM (below_step HB.out hb); have NB := zM (show g4 ≠ g5 by rw [hg]; exact Nat.ne_of_lt (blk_lt BK4.out)); replace BK4 := zM (blk_below BK4.out hb); clear hg hbox hb; have hc0 := zy BK5 0; have hc1 := zy BK5 1; have hf0 := blk_frozen BK5.out 0; have hf1 := blk_frozen BK5.out 1)
    | (go_at_call 86; refine uBox BK5 HB HG5.out ?_; intro w3 BKn hk HBn; replace HS := zM (Kd.S_mono (ok' := fun _ => True) (Kd.S_kept (Kd.S_types HS.out BK5.out (by decide)) hk (fun k hk2 e => hk2.2 e)) (fun _ _ => trivial)); replace BK4 := zM (blk_kept BK4.out hk NB.out); clear BK5 HB hk; have BK5 := BKn; have HB := HBn; clear BKn HBn; refine (sortLists.calls (fun k => (True ∧ k ≠ g5) ∧ k ≠ g4) _ ls w _ HB.out (Kd.S_types (Kd.S_types HS.out BK5.out (by decide)) BK4.out (by decide)) (by have := HL.out; omega)).mono ?_; rintro e w4 ⟨rfl, ho, hb, hk⟩; clear HS; have HS := zM (Kd.S_mono (ok' := fun _ => True) ho (fun _ _ => trivial)); replace BK4 := zM (blk_kept BK4.out hk (fun h => h.2 rfl)); replace BK5 := zM (blk_kept BK5.out hk (fun h => h.1.2 rfl)); replace HB := zM hb; clear ho hb hk; replace hc0 := zy BK5 0; replace hc1 := zy BK5 1; replace hf0 := blk_frozen BK5.out 0; replace hf1 := blk_frozen BK5.out 1))
  have HTm := zM (fun x => (sortLL_mem ls x).1)
  have HTl := zM (sortLL_len ls)
  obtain ⟨T, hT⟩ : ∃ T, T = sortLL ls := ⟨_, rfl⟩
  rw [← hT] at HS HTm HTl
  have HTT := zM hT
  clear hT
  have HR0 := zM (Kd.R_nil k69 69 w4 w.heap.size (fun _ => True))
  have HSz := zM (show (allSteps st 0 T).length ≤ 1048576 by
    have h1 := allSteps_len st T 0
    have h2 := HL.out
    have h3 := HTl.out
    have h4 : T.length * T.length ≤ 1024 * 1024 := Nat.mul_le_mul (by omega) (by omega)
    omega)
  generalize hRR : allSteps st 0 T = RR at HSz
  have HRR := zM hRR
  clear hRR
  go_loopg [18] (ls.length + 1) (fun kq v18 w' => ∃ (i : Nat) (Q : List S69) (v1 : Value), v18 = .int .i64 (i : Int) ∧ Aside0 (i ≤ ls.length) ∧ Aside0 (kq = ls.length - i + 1) ∧ Aside0 (Q ++ allSteps st i (T.drop i) = RR) ∧ Aside0 (Kd.S (Kd.slice 3 (Kd.int .i64)) 25 w' w.heap.size (fun _ => True) (.slice Au ls.length cu) T) ∧ Aside0 (Kd.R k69 69 w' w.heap.size (fun _ => True) v1 Q) ∧ Aside0 (w'.heap[g5]? = some (.cells #[.slice Au ls.length cu, v1] 52 (0, 0))) ∧ Aside0 (w'.heap[g4]? = some (.cells #[.slice none 0 0, .slice none 0 0] 52 (0, 0))) ∧ Aside0 (Below w.heap.size w w'))
  case atStart => exact ⟨0, [], .slice none 0 0, by first | rfl | (simp; done), ⟨Nat.zero_le _⟩, ⟨by omega⟩, ⟨by rw [List.drop_zero, List.nil_append]; exact HRR.out⟩, HS, HR0, BK5, BK4, HB⟩
  case round =>
    clear HS HR0 BK5 BK4 HB hc0 hc1 hf0 hf1
    obtain ⟨i, Q, v1, rfl, HI, HK1, HQ, HS, HR, BK5, BK4, HB⟩ := hrel
    have hc0 := zy BK5 0
    have hc1 := zy BK5 1
    have hf0 := blk_frozen BK5.out 0
    have hf1 := blk_frozen BK5.out 1
    by_cases c1 : i < ls.length
    · obtain ⟨gS, capS, eS, gbS, glS, cS, hcS⟩ := Kd.S_form HS.out (by have := HTl.out; omega)
      injection eS with eA eN ec
      subst eA; subst ec
      clear eN
      have BKS := zM hcS
      obtain ⟨Ao, co, eo⟩ := Kd.R_slice HR.out
      subst eo
      obtain ⟨A0, c0, hx0⟩ := row_head HS.out i c1
      have HX0 := zM ((blk_cell BKS.out i).symm.trans hx0)
      have HCU := zM (show ls.length ≤ cu from (Kd.S_reads' HS.out).2.1)
      have HTi := zM (show T.getD i [] ∈ ls by
        have := HTl.out
        rw [List.getD_eq_getElem?_getD, List.getElem?_eq_getElem (by omega), Option.getD_some]
        exact HTm.out _ (List.getElem_mem _))
      have HQ2 := zM (show Q ++ rowSteps st (T.getD i []) i (i + 1) (T.drop (i + 1)) ++ allSteps st (i + 1) (T.drop (i + 1)) = RR by
        have := HTl.out
        have hi : i < T.length := by omega
        have h1 := HQ.out
        rw [List.drop_eq_getElem_cons hi] at h1
        rw [List.getD_eq_getElem?_getD, List.getElem?_eq_getElem hi, Option.getD_some, List.append_assoc]
        exact h1)
      generalize hTa : T.getD i [] = a at hx0 HX0 HTi HQ2
      have HTa := zM hTa
      clear hTa
      have HLN := zM HTl.out
      have q1 : (i : Int) < (ls.length : Int) := by omega
      have c1b : decide ((i : Int) < (ls.length : Int)) = true := decide_eq_true q1
      have c1c : decide (i < ls.length) = true := decide_eq_true c1
      have p1 : (0 : Int) ≤ (i : Int) := by omega
      have hw1 : (i : Int) + 1 ≤ 9223372036854775807 := by have := HL.out; omega
      obtain ⟨p, hp⟩ : ∃ p : Nat, p = i + 1 := ⟨_, rfl⟩
      have HPp := zM hp
      have hpi : (i : Int) + 1 = (p : Int) := by omega
      have hw2 : ((p : Int) ≤ (ls.length : Int)) = True := eq_true (by omega)
      have hw3 : (p ≤ ls.length) = True := eq_true (by omega)
      have hw4 : (p ≤ cu) = True := eq_true (by have := HCU.out; omega)
      have hw5 : (0 ≤ (p : Int)) = True := eq_true (by omega)
      obtain ⟨D, hD⟩ : ∃ D : Nat, ls.length - p = D := ⟨_, rfl⟩
      have HDD := zM hD
      have HPn := zM (show p ≤ ls.length by omega)
      have hpw : wrap64 (p : Int) = (p : Int) := wrap_nat (by omega) (by have := HL.out; omega)
      obtain ⟨B, hB⟩ : ∃ B : Option Addr, (if cu = p then some (⟨gS, 0, none⟩ : Addr) else some ⟨gS, p, none⟩) = B := ⟨_, rfl⟩
      clear hp hw1
      have HC1 := zM c1
      replace p1 := eq_true p1
      replace q1 := eq_true q1
      clear HQ hcS gbS glS c1
      go_wp2
      go_loopg [29] (D + 1) (fun kq v29 w' => ∃ (j : Nat) (Q2 : List S69) (v1 : Value), v29 = .int .i64 (j : Int) ∧ Aside0 (j ≤ D) ∧ Aside0 (kq = D - j + 1) ∧ Aside0 (Q2 ++ rowSteps st a i (p + j) (T.drop (p + j)) ++ allSteps st (i + 1) (T.drop (i + 1)) = RR) ∧ Aside0 (Kd.S (Kd.slice 3 (Kd.int .i64)) 25 w' w.heap.size (fun _ => True) (.slice (some ⟨gS, 0, none⟩) ls.length cu) T) ∧ Aside0 (Kd.R k69 69 w' w.heap.size (fun _ => True) v1 Q2) ∧ Aside0 (w'.heap[g5]? = some (.cells #[.slice (some ⟨gS, 0, none⟩) ls.length cu, v1] 52 (0, 0))) ∧ Aside0 (w'.heap[g4]? = some (.cells #[.slice none 0 0, .slice none 0 0] 52 (0, 0))) ∧ Aside0 (w'.heap[gS]? = some (.cells cS 25 (0, 0))) ∧ Aside0 (Below w.heap.size w w'))
      case atStart => exact ⟨0, Q, _, by first | rfl | (simp; done), ⟨Nat.zero_le _⟩, ⟨by omega⟩, ⟨by rw [Nat.add_zero, HPp.out]; exact HQ2.out⟩, HS, HR, BK5, BK4, BKS, HB⟩
      case round =>
        clear HS HR BK5 BK4 BKS HB hc0 hc1 hf0 hf1 hx0 HQ2
        obtain ⟨j, Q2, v1, rfl, HJ, HK2, HQ2, HS, HR, BK5, BK4, BKS, HB⟩ := hrel
        obtain ⟨Ao2, co2, eo2⟩ := Kd.R_slice HR.out
        subst eo2
        have hc0 := zy BK5 0
        have hc1 := zy BK5 1
        have hf0 := blk_frozen BK5.out 0
        have hf1 := blk_frozen BK5.out 1
        by_cases c2 : j < D
        · have hBv : B = some ⟨gS, p, none⟩ := by
            have := HDD.out
            have := HCU.out
            rw [← hB, if_neg (by omega)]
          clear hB
          subst hBv
          obtain ⟨q, hq⟩ : ∃ q : Nat, p + j = q := ⟨_, rfl⟩
          have hqn : q < ls.length := by have := HDD.out; omega
          obtain ⟨A1, c1', hx1⟩ := row_head HS.out q hqn
          have HX1 := zM hx1
          obtain ⟨la1, la2, la3⟩ := row_C HS.out i HC1.out ((blk_cell BKS.out i).trans HX0.out)
          obtain ⟨lb1, lb2, lb3⟩ := row_C HS.out q hqn hx1
          rw [HTa.out] at la3
          have HTb := zM (show T.getD q [] ∈ ls by
            have := HTl.out
            rw [List.getD_eq_getElem?_getD, List.getElem?_eq_getElem (by omega), Option.getD_some]
            exact HTm.out _ (List.getElem_mem _))
          have HQ3 := zM (show Q2 ++ (if st a (T.getD q []) = true then [(⟨(i : Int), (q : Int)⟩ : S69)] else []) ++ rowSteps st a i (p + (j + 1)) (T.drop (p + (j + 1))) ++ allSteps st (i + 1) (T.drop (i + 1)) = RR by
            have := HTl.out
            have hi : q < T.length := by omega
            have h1 := HQ2.out
            rw [hq, List.drop_eq_getElem_cons hi] at h1
            simp only [rowSteps] at h1
            rw [List.getD_eq_getElem?_getD, List.getElem?_eq_getElem hi, Option.getD_some, show p + (j + 1) = q + 1 by omega, List.append_assoc Q2]
            exact h1)
          generalize T.getD q [] = b at hx1 HX1 lb1 lb2 lb3 HTb HQ3
          have HCa := zM la3
          have HCb := zM lb3
          have HLa := zM la2
          have HLb := zM lb2
          have HQl := zM (show Q2.length < 1048577 by
            have h1 := congrArg List.length HQ3.out
            simp only [List.length_append] at h1
            have := HSz.out
            omega)
          have q2 : (j : Int) < (D : Int) := by omega
          have c2b : decide ((j : Int) < (D : Int)) = true := decide_eq_true q2
          have c2c : decide (j < D) = true := decide_eq_true c2
          have p2 : (0 : Int) ≤ (j : Int) := by omega
          have hw6 : (j : Int) + 1 ≤ 9223372036854775807 := by have := HL.out; omega
          have hqi : (p : Int) + (j : Int) = (q : Int) := by omega
          have hqw : wrap64 (q : Int) = (q : Int) := wrap_nat (by omega) (by have := HL.out; omega)
          have HJ2 := zM c2
          have hf2 := blk_frozen BKS.out
          replace p2 := eq_true p2
          replace q2 := eq_true q2
          have NS := zM (show gS ≠ g5 by
            intro e
            have h := BKS.out
            rw [e, BK5.out] at h
            injection h with h
            injection h with _ h
            exact absurd h (by decide))
          clear la1 la2 la3 lb1 lb2 lb3 c2 hqn HQ2 hf2
          cases hst : st a b with
          | true =>
            rw [hst, if_pos rfl] at HQ3
            have HSt := zM hst
            clear hst
            obtain ⟨Q5, hQ5⟩ : ∃ Q5, Q5 = Q2 ++ [(⟨(i : Int), (q : Int)⟩ : S69)] := ⟨_, rfl⟩
            rw [← hQ5] at HQ3
            have HQ5 := zM hQ5
            clear hQ5
            go_wp2_with (first
              | (go_at_fn g; refine (HT.out _ a b A0 A1 c0 c1' HTi.out HTb.out HB.out HCa.out HLa.out HCb.out HLb.out).mono ?_; rw [HSt.out]; rintro e w6 ⟨rfl, hb⟩; replace HS := zM (Kd.S_below HS.out hb); replace HR := zM (Kd.R_below HR.out hb); replace BK5 := zM (blk_below BK5.out hb); replace BK4 := zM (blk_below BK4.out hb); replace BKS := zM (blk_below BKS.out hb); replace HB := zM (below_step HB.out hb); clear hb; replace hc0 := zy BK5 0; replace hc1 := zy BK5 1; replace hf0 := blk_frozen BK5.out 0; replace hf1 := blk_frozen BK5.out 1)
              | ((with_reducible refine gate_builtin (b := .append) (xs := #[.tmp 39, .tmp 46]) rfl ?_); at_builtin; refine Kd.R_append k69 (w0 := w) w.heap.size rfl (.tmp 39) (.tmp 46) 22 69 (.agg #[(.int .i64 0), (.int .i64 0)]) 16 rfl Tryz.underlying22 info69 rfl (by decide) (by omega) (.slice Ao2 Q2.length co2) Q2 (⟨(i : Int), (q : Int)⟩ : S69) [.int .i64 (i : Int), .int .i64 (q : Int)] (fun _ => True) (fun _ => False) rfl rfl ?aP (fun _ hk => hk.elim) ?aF ?aO ?aB ?aS ?aL ?_; (case aP => exact k69_mkM _ _ _ (⟨(i : Int), (q : Int)⟩ : S69)); (case aB => exact zB); (case aF => exact (fun _ _ => trivial)); (case aO => exact (zR HR.out)); (case aS => exact (below_size zB)); (case aL => have := HQl.out; omega); intro v9 w9 ho hb hg hat; rw [← HQ5.out] at ho; obtain ⟨A9, c9, e9⟩ := Kd.R_slice ho; subst e9; replace HS := zM (Kd.S_over' HS.out (Kd.R_typed HR.out) (by decide) hg); replace BK5 := zM (blk_grown (zK BK5.out) hg (Kd.R_ne HR.out BK5.out (by decide))); replace BK4 := zM (blk_grown (zK BK4.out) hg (Kd.R_ne HR.out BK4.out (by decide))); replace BKS := zM (blk_grown (zK BKS.out) hg (Kd.R_ne HR.out BKS.out (by decide))); replace HB := zM hb; replace HR := zM ho; clear ho hb hg hat; replace hc0 := zy BK5 0; replace hc1 := zy BK5 1; replace hf0 := blk_frozen BK5.out 0; replace hf1 := blk_frozen BK5.out 1))
            go_roundg (D - j)
            case measure => have := HK2.out; have := HJ2.out; omega
            case rel => exact ⟨j + 1, Q5, _, by first | rfl | (simp; done) | go_num, ⟨by have := HJ2.out; omega⟩, ⟨by have := HJ2.out; omega⟩, HQ3, ⟨Kd.S_mono (Kd.S_far (p := ⟨g5, 1, none⟩) (Kd.S_types HS.out BK5.out (by decide)) (fun _ hk => hk.2) _) (fun _ _ => trivial)⟩, ⟨Kd.R_mono (Kd.R_far (p := ⟨g5, 1, none⟩) (Kd.R_types HR.out BK5.out (by decide)) (fun _ hk => hk.2) _) (fun _ _ => trivial)⟩, ⟨blk_put (cs := #[.slice (some ⟨gS, 0, none⟩) ls.length cu, .slice Ao2 Q2.length co2]) BK5.out 1 _ rfl⟩, ⟨blk_far BK4.out NB.out _⟩, ⟨blk_far BKS.out NS.out _⟩, ⟨below_set HB.out HG5.out⟩⟩
          | false =>
            rw [hst, if_neg (by decide), List.append_nil] at HQ3
            have HSt := zM hst
            clear hst
            go_wp2_with (go_at_fn g; refine (HT.out _ a b A0 A1 c0 c1' HTi.out HTb.out HB.out HCa.out HLa.out HCb.out HLb.out).mono ?_; rw [HSt.out]; rintro e w6 ⟨rfl, hb⟩; replace HS := zM (Kd.S_below HS.out hb); replace HR := zM (Kd.R_below HR.out hb); replace BK5 := zM (blk_below BK5.out hb); replace BK4 := zM (blk_below BK4.out hb); replace BKS := zM (blk_below BKS.out hb); replace HB := zM (below_step HB.out hb); clear hb; replace hc0 := zy BK5 0; replace hc1 := zy BK5 1; replace hf0 := blk_frozen BK5.out 0; replace hf1 := blk_frozen BK5.out 1)
            go_roundg (D - j)
            case measure => have := HK2.out; have := HJ2.out; omega
            case rel => exact ⟨j + 1, Q2, _, by first | rfl | (simp; done) | go_num, ⟨by have := HJ2.out; omega⟩, ⟨by have := HJ2.out; omega⟩, HQ3, HS, HR, BK5, BK4, BKS, HB⟩
        · have hj : j = D := by have := HJ.out; omega
          have c2b : decide ((j : Int) < (D : Int)) = false := decide_eq_false (by omega)
          have c2c : decide (j < D) = false := decide_eq_false c2
          have HQ4 := zM (show Q2 ++ allSteps st (i + 1) (T.drop (i + 1)) = RR by
            have h1 := HQ2.out
            have h2 := HTl.out
            have h3 := HDD.out
            have h4 := HPn.out
            rw [List.drop_eq_nil_of_le (show T.length ≤ p + j by omega)] at h1
            simpa [rowSteps] using h1)
          clear c2 hj HQ2
          have hwi : (i : Int) + 1 ≤ 9223372036854775807 := by have := HC1.out; have := HL.out; omega
          go_wp2
          go_roundg (ls.length - i)
          case measure => have := HK1.out; have := HC1.out; omega
          case rel => exact ⟨i + 1, Q2, _, by first | rfl | exact congrArg (fun z : Nat => Value.int .i64 (z : Int)) HPp.out | (simp; done) | go_num, ⟨by have := HC1.out; omega⟩, ⟨by have := HC1.out; omega⟩, HQ4, HS, HR, BK5, BK4, HB⟩
    · have hi : i = ls.length := by have := HI.out; omega
      have c1b : decide ((i : Int) < (ls.length : Int)) = false := decide_eq_false (by omega)
      have c1c : decide (i < ls.length) = false := decide_eq_false c1
      have HF := zM (show Q = RR by
        have h1 := HQ.out
        have h2 := HTl.out
        rw [List.drop_eq_nil_of_le (by omega)] at h1
        simpa [allSteps] using h1)
      have hd0 := zy BK4 0
      have hd1 := zy BK4 1
      have he0 := blk_frozen BK4.out 0
      have he1 := blk_frozen BK4.out 1
      obtain ⟨Ao, co, eo⟩ := Kd.R_slice HR.out
      subst eo
      clear c1 hi HQ
      go_wp2
      (try simp only [Exit.inBlock, Exit.then])
      refine bodyPost_ret (results_cell_row rfl _ _ g4 52 #[.slice Au ls.length cu, .slice Ao Q.length co] (0, 0) _ rfl (blk_put (cs := #[.slice Au ls.length cu, .slice none 0 0]) (blk_put (cs := #[.slice none 0 0, .slice none 0 0]) BK4.out 0 _ rfl) 1 _ rfl) hu rfl (by kernel_rfl)) rfl ?_
      refine ⟨_, _, rfl, ?_, ?_, below_set (below_set HB.out HG4.out) HG4.out⟩
      · rw [← HTT.out]
        exact Kd.S_mono (Kd.S_far (p := ⟨g4, 1, none⟩) (Kd.S_far (p := ⟨g4, 0, none⟩) (Kd.S_types HS.out BK4.out (by decide)) (fun _ hk => hk.2) _) (fun _ hk => hk.2) _) (fun _ _ => trivial)
      · rw [← HTT.out, HRR.out, ← HF.out]
        exact Kd.R_mono (Kd.R_far (p := ⟨g4, 1, none⟩) (Kd.R_far (p := ⟨g4, 0, none⟩) (Kd.R_types HR.out BK4.out (by decide)) (fun _ hk => hk.2) _) (fun _ hk => hk.2) _) (fun _ _ => trivial)
end Go.Proofs.YtadjbmcfgjmhkaaGreat.P
namespace Go.Proofs.YtadjbmcfgjmhkaaGreat.P
open Go.RowKit Go.Proofs.YtadjbmcfgjmhkaaGreatW.PrintWords Go.Proofs.YtadjbmcfgjmhkaaGreatW.PrintLast Go.Proofs.YtadjbmcfgjmhkaaGreatW.PrintMore
set_option linter.unusedVariables false
set_option linter.unusedSimpArgs false

def bothB (a1 : Int) (s : S69) : Bool := (impl_bag_has.f a1 s.f0).getD false && (impl_bag_has.f a1 s.f1).getD false
def impl_Graph_isFree.f (a0_0 : Int) (l0_1 : List S69) (a1 : Int) : Option Bool :=
  if l0_1.all (fun s => (impl_bag_has.f a1 s.f0).isSome && (impl_bag_has.f a1 s.f1).isSome) then some (!(l0_1.any (bothB a1))) else none
set_option maxHeartbeats 1000000 in
theorem isFree1_any (gb : Nat) (a1 : Int) (s : S69) (x y : Bool) (hx : impl_bag_has.f a1 s.f0 = some x) (hy : impl_bag_has.f a1 s.f1 = some y) (W : World) (hl : W.cell? ⟨gb, 0, none⟩ = some (.int .u64 a1)) :
    Calls Tryz.prog 102 (#[.agg #[.int .i64 s.f0, .int .i64 s.f1]] ++ #[.pointer (some ⟨gb, 0, none⟩)]) W fun e w' => e = .returned (.bool (x && y)) ∧ Below W.heap.size W w' := by
  have HX := Aside0.mk hx
  have HY := Aside0.mk hy
  clear hx hy
  show Calls Tryz.prog 102 #[.agg #[.int .i64 s.f0, .int .i64 s.f1], .pointer (some ⟨gb, 0, none⟩)] W _
  have hl2 := fun o : Obj => pw_cell_below (below_alloc (Below.refl W.heap.size W) o) hl
  go_enter Tryz.func102, Tryz.ntmps102
  go_wp2_with fail
  go_at_call 103
  refine (impl_bag_has.calls _ _ x _ HX.out).mono ?_
  rintro e w' ⟨rfl, ⟨n1, rfl⟩⟩
  cases x with
  | true =>
    go_wp2_with fail
    go_at_call 103
    refine (impl_bag_has.calls _ _ y _ HY.out).mono ?_
    rintro e w' ⟨rfl, ⟨n2, rfl⟩⟩
    go_wp2
    go_ret
    exact ⟨by first | rfl | (simp; done), by repeat (first | exact Below.refl _ _ | apply below_alloc | apply pw_below_drewN | apply below_drew1)⟩
  | false =>
    go_wp2
    go_ret
    exact ⟨by first | rfl | (simp; done), by repeat (first | exact Below.refl _ _ | apply below_alloc | apply pw_below_drewN | apply below_drew1)⟩
set_option maxHeartbeats 1000000 in
theorem impl_Graph_isFree.calls (a0_0 : Int) (A0_1 : Option Addr) (c0_1 : Nat) (l0_1 : List (S69)) (a1 : Int) (r : Bool) (w : World) (hr0_1 : Kd.C k69 w A0_1 l0_1.length l0_1) (hc0_1 : l0_1.length ≤ c0_1) (h : impl_Graph_isFree.f a0_0 l0_1 a1 = some r) :
    Calls Tryz.prog 85 #[.agg #[.int .i64 a0_0, .slice A0_1 l0_1.length c0_1], .int .u64 a1] w fun e w' => e = .returned (.bool r) ∧ Below w.heap.size w w' := by
  unfold impl_Graph_isFree.f at h
  by_cases hall : l0_1.all (fun s => (impl_bag_has.f a1 s.f0).isSome && (impl_bag_has.f a1 s.f1).isSome) = true
  case neg => rw [if_neg hall] at h; cases h
  rw [if_pos hall] at h
  obtain rfl := Option.some.inj h
  have HP := fun (W : World) (gb : Nat) (hl : W.cell? ⟨gb, 0, none⟩ = some (.int .u64 a1)) =>
    Aside0.mk (show PredB 102 #[.pointer (some ⟨gb, 0, none⟩)] (fun x : S69 => Value.agg #[.int .i64 x.f0, .int .i64 x.f1]) (bothB a1) l0_1 W from fun W' x hx hb => by
      have hs := List.all_eq_true.1 hall x hx
      rw [Bool.and_eq_true] at hs
      obtain ⟨b1, h1⟩ := Option.isSome_iff_exists.1 hs.1
      obtain ⟨b2, h2⟩ := Option.isSome_iff_exists.1 hs.2
      have := isFree1_any gb a1 x b1 b2 h1 h2 W' (pw_cell_below hb hl)
      unfold bothB
      rw [h1, h2]
      exact this)
  have HR0 := Aside0.mk hr0_1
  clear hr0_1 hall h
  generalize hg : l0_1.any (bothB a1) = b
  have HG := Aside0.mk hg
  clear hg
  have HB1 := Aside0.mk (below_alloc (below_alloc (Below.refl w.heap.size w) (.cells #[.int .i64 a0_0, .slice A0_1 l0_1.length c0_1] 30)) (.cells #[.int .u64 a1] 84))
  go_enter Tryz.func85, Tryz.ntmps85
  go_wp2_with fail
  go_at_call 101
  refine (cont_prs _ _ (enters_of Tryz.func102 (by kernel_rfl) rfl) _ A0_1 c0_1 l0_1 _ (Kd.C_below HR0.out HB1.out) (HP _ _ (by go_simp)).out).mono ?_
  rintro e w' ⟨rfl, hb⟩
  rw [HG.out]
  have HB := Aside0.mk (below_step HB1.out hb)
  clear hb
  go_wp2
  go_ret
  exact ⟨by first | rfl | (simp; done), HB.out⟩
end Go.Proofs.YtadjbmcfgjmhkaaGreat.P
namespace Go.Proofs.YtadjbmcfgjmhkaaGreat.P
open Go.RowKit Go.Proofs.YtadjbmcfgjmhkaaGreatW.PrintWords Go.Proofs.YtadjbmcfgjmhkaaGreatW.PrintLast Go.Proofs.YtadjbmcfgjmhkaaGreatW.PrintMore
set_option linter.unusedVariables false
set_option linter.unusedSimpArgs false

theorem size_fin : ∀ b : Fin 256, impl_bag_size.f b = some (((selI (hasI b) 8 0).length : Nat) : Int) := by decide +kernel
theorem size_at {b : Int} (h0 : 0 ≤ b) (h1 : b < 256) : impl_bag_size.f b = some (((selI (hasI b) 8 0).length : Nat) : Int) := by
  obtain ⟨i, rfl⟩ := fin_of (n := 256) h0 h1
  exact size_fin i
/-- A set's code: its number of nodes is from lo to hi, and no two are neighbours. -/
def freeP (e : List S69) (lo hi b : Int) : Bool := (decide (lo ≤ ((selI (hasI b) 8 0).length : Int)) && decide (((selI (hasI b) 8 0).length : Int) ≤ hi)) && !(e.any (bothB b))
def edgesOk (e : List S69) : Bool := e.all fun s => decide (0 ≤ s.f0) && decide (0 ≤ s.f1)
theorem isFree_some (a : Int) (e : List S69) (b : Int) (h : edgesOk e = true) : impl_Graph_isFree.f a e b = some (!(e.any (bothB b))) := by
  unfold impl_Graph_isFree.f
  rw [if_pos]
  rw [List.all_eq_true]
  intro s hs
  have := List.all_eq_true.1 h s hs
  rw [Bool.and_eq_true, decide_eq_true_eq, decide_eq_true_eq] at this
  rw [bag_has_at this.1, bag_has_at this.2]
  rfl
theorem between_val (n lo hi : Int) : impl_between.f n lo hi = some (decide (lo ≤ n) && decide (n ≤ hi)) := by
  unfold impl_between.f
  by_cases h : n ≥ lo
  · rw [if_pos h, decide_eq_true (show lo ≤ n from h), Bool.true_and]
  · rw [if_neg h, decide_eq_false (show ¬ lo ≤ n from h), Bool.false_and]
set_option maxHeartbeats 1000000 in
theorem free1_any (gl gh gg : Nat) (lo hi : Int) (a0 : Int) (A1 : Option Addr) (c1 : Nat) (l1 : List S69) (b : Int) (h0 : 0 ≤ b) (h1 : b < 256) (hok : edgesOk l1 = true) (W : World) (hl : W.cell? ⟨gl, 0, none⟩ = some (.int .i64 lo)) (hh : W.cell? ⟨gh, 0, none⟩ = some (.int .i64 hi))
    (hg0 : W.cell? ⟨gg, 0, none⟩ = some (.int .i64 a0)) (hg1 : W.cell? ⟨gg, 1, none⟩ = some (.slice A1 l1.length c1)) (hr : Kd.C k69 W A1 l1.length l1) (hc : l1.length ≤ c1) :
    Calls Tryz.prog 98 (#[.int .u64 b] ++ #[.pointer (some ⟨gl, 0, none⟩), .pointer (some ⟨gh, 0, none⟩), .pointer (some ⟨gg, 0, none⟩)]) W fun e w' => e = .returned (.bool (freeP l1 lo hi b)) ∧ Below W.heap.size W w' := by
  have hu := Tryz.underlying30
  have HS := zM (size_at h0 h1)
  obtain ⟨n, hn⟩ : ∃ n : Int, n = ((selI (hasI b) 8 0).length : Int) := ⟨_, rfl⟩
  rw [← hn] at HS
  obtain ⟨q, hq⟩ : ∃ q, q = (decide (lo ≤ n) && decide (n ≤ hi)) := ⟨_, rfl⟩
  obtain ⟨f, hf⟩ : ∃ f, f = !(l1.any (bothB b)) := ⟨_, rfl⟩
  have HQ := zM (show impl_between.f n lo hi = some q by rw [hq]; exact between_val n lo hi)
  have HF := zM (show impl_Graph_isFree.f a0 l1 b = some f by rw [hf]; exact isFree_some a0 l1 b hok)
  have HE := zM (show freeP l1 lo hi b = (q && f) by rw [hq, hf, hn]; rfl)
  rw [HE.out]
  have HR := zM hr
  have HC := zM hc
  clear hr hc hn hq hf HE h0 h1 hok
  show Calls Tryz.prog 98 #[.int .u64 b, .pointer (some ⟨gl, 0, none⟩), .pointer (some ⟨gh, 0, none⟩), .pointer (some ⟨gg, 0, none⟩)] W _
  go_enter Tryz.func98, Tryz.ntmps98
  go_upto_region 1 with (fail)
  (try simp only [Act.put, List.setIfInBounds_toArray, List.set_cons_zero, List.set_cons_succ])
  refine zs (n := 11) (fun w' => w'.cell? ⟨gl, 0, none⟩ = some (.int .i64 lo) ∧ w'.cell? ⟨gh, 0, none⟩ = some (.int .i64 hi) ∧ w'.cell? ⟨gg, 0, none⟩ = some (.int .i64 a0) ∧ w'.cell? ⟨gg, 1, none⟩ = some (.slice A1 l1.length c1)) ⟨hl, hh, hg0, hg1⟩ (fun hHeld => ?_)
  have HB := zM (below_drew (Below.refl W.heap.size W))
  generalize W.drew = W1 at HB hHeld ⊢
  refine zq 0 6 ?_
  refine zl 2 8 hHeld ?_ (hy := by rintro w' ⟨s0, s1, s2, s3⟩; go_simp; with_reducible rfl)
  refine zl 3 9 hHeld ?_ (hy := by rintro w' ⟨s0, s1, s2, s3⟩; go_simp; with_reducible rfl)
  refine zh 1 7 Tryz.func89 #[.int .u64 b] (fun K hK => ?_)
  refine (impl_bag_size.calls b n _ HS.out).mono ?_
  rintro e w1 ⟨rfl, hd⟩
  have hb : Below _ _ _ := (by first | exact Drawn0.below hd | exact hd)
  refine ⟨_, rfl, ?_⟩
  refine hK.out _ _ ⟨pw_cell_below hb hHeld.1, pw_cell_below hb hHeld.2.1, pw_cell_below hb hHeld.2.2.1, pw_cell_below hb hHeld.2.2.2⟩ (fun hHeld => ?_)
  replace HB := zM (below_step HB.out hb)
  clear hK K hd hb
  refine zn 7 ?_
  refine zh 4 10 Tryz.func77 #[.int .i64 n, .int .i64 lo, .int .i64 hi] (fun K hK => ?_)
  refine (impl_between.calls n lo hi q _ HQ.out).mono ?_
  rintro e w2 ⟨rfl, hd⟩
  have hb : Below _ _ _ := (by first | exact Drawn0.below hd | exact hd)
  refine ⟨_, rfl, ?_⟩
  refine hK.out _ _ ⟨pw_cell_below hb hHeld.1, pw_cell_below hb hHeld.2.1, pw_cell_below hb hHeld.2.2.1, pw_cell_below hb hHeld.2.2.2⟩ (fun hHeld => ?_)
  replace HB := zM (below_step HB.out hb)
  clear hK K hd hb
  refine zn 10 ?_
  refine zq 5 11 ?_
  cases q with
  | true =>
    refine zl 6 12 hHeld ?_ (hy := by rintro w' ⟨s0, s1, s2, s3⟩; go_simp; with_reducible rfl)
    refine zq 7 13 ?_
    refine zh 8 14 Tryz.func85 #[.agg #[.int .i64 a0, .slice A1 l1.length c1], .int .u64 b] (fun K hK => ?_)
    refine (impl_Graph_isFree.calls a0 A1 c1 l1 b f _ (Kd.C_below HR.out HB.out) HC.out HF.out).mono ?_
    rintro e w3 ⟨rfl, hb⟩
    refine ⟨_, rfl, ?_⟩
    refine hK.out _ _ ⟨pw_cell_below hb hHeld.1, pw_cell_below hb hHeld.2.1, pw_cell_below hb hHeld.2.2.1, pw_cell_below hb hHeld.2.2.2⟩ (fun hHeld => ?_)
    replace HB := zM (below_step HB.out hb)
    clear hK K hb
    refine zn 14 ?_
    refine zq 9 15 ?_
    refine zq 10 5 ?_
    refine zx ?_
    (try go_wp2)
    go_ret
    exact ⟨by first | rfl | (simp; done), HB.out⟩
  | false =>
    refine zv 6 12 ?_
    refine zv 7 13 ?_
    refine zv 8 14 ?_
    refine zq 9 15 ?_
    refine zq 10 5 ?_
    refine zx ?_
    (try go_wp2)
    go_ret
    exact ⟨by first | rfl | (simp; done), HB.out⟩
def impl_Graph_free.f (a0_0 : Int) (l0_1 : List S69) (a1 a2 : Int) : Option (List (List Int)) :=
  if (0 ≤ a0_0 ∧ a0_0 ≤ 8) ∧ edgesOk l0_1 = true then some (sortLL (codesL (freeP l0_1 a1 a2) (2 ^ a0_0.toNat))) else none
set_option maxRecDepth 100000 in
set_option maxHeartbeats 2000000 in
theorem impl_Graph_free.calls (a0_0 : Int) (A0_1 : Option Addr) (c0_1 : Nat) (l0_1 : List (S69)) (a1 : Int) (a2 : Int) (r : List (List Int)) (w : World) (hr0_1 : Kd.C k69 w A0_1 l0_1.length l0_1) (hc0_1 : l0_1.length ≤ c0_1) (h : impl_Graph_free.f a0_0 l0_1 a1 a2 = some r) :
    Calls Tryz.prog 78 #[.agg #[.int .i64 a0_0, .slice A0_1 l0_1.length c0_1], .int .i64 a1, .int .i64 a2] w fun e w' => ∃ v0_ : Value, e = .returned (v0_) ∧ Kd.S (Kd.slice 3 (Kd.int .i64)) 25 w' w.heap.size (fun _ => True) v0_ r ∧ Below w.heap.size w w' := by
  unfold impl_Graph_free.f at h
  by_cases c : (0 ≤ a0_0 ∧ a0_0 ≤ 8) ∧ edgesOk l0_1 = true
  case neg => rw [if_neg c] at h; cases h
  rw [if_pos c] at h
  have HE := zM (Option.some.inj h)
  have HR := zM hr0_1
  have HC := zM hc0_1
  have HO := zM c
  have hpow : 2 ^ a0_0.toNat ≤ 256 := Nat.pow_le_pow_right (n := 2) (by decide) (show a0_0.toNat ≤ 8 by have := c.1; omega)
  have HPW := zM hpow
  clear h hr0_1 hc0_1 c hpow
  have HP := fun (W : World) (gg gl gh : Nat) (hg0 : W.cell? ⟨gg, 0, none⟩ = some (.int .i64 a0_0)) (hg1 : W.cell? ⟨gg, 1, none⟩ = some (.slice A0_1 l0_1.length c0_1)) (hl : W.cell? ⟨gl, 0, none⟩ = some (.int .i64 a1)) (hh : W.cell? ⟨gh, 0, none⟩ = some (.int .i64 a2)) (hr : Kd.C k69 W A0_1 l0_1.length l0_1) =>
    zM (show PredN 98 #[.pointer (some ⟨gl, 0, none⟩), .pointer (some ⟨gh, 0, none⟩), .pointer (some ⟨gg, 0, none⟩)] (freeP l0_1 a1 a2) (2 ^ a0_0.toNat) W from fun W' b h0 h1 hb =>
      free1_any gl gh gg a1 a2 a0_0 A0_1 c0_1 l0_1 b h0 (by have := HPW.out; omega) HO.out.2 W' (pw_cell_below hb hl) (pw_cell_below hb hh) (pw_cell_below hb hg0) (pw_cell_below hb hg1) (Kd.C_below hr hb) HC.out)
  have HB1 := zM (below_alloc (below_alloc (below_alloc (Below.refl w.heap.size w) (.cells #[.int .i64 a0_0, .slice A0_1 l0_1.length c0_1] 30)) (.cells #[.int .i64 a1] 3)) (.cells #[.int .i64 a2] 3))
  go_enter Tryz.func78, Tryz.ntmps78
  go_wp2_with (go_at_call 97; refine (sets_calls _ _ (enters_of Tryz.func98 (by kernel_rfl) rfl) _ a0_0 HO.out.1.1 HO.out.1.2 A0_1 c0_1 l0_1 _ (Kd.C_below HR.out HB1.out) HC.out (HP _ _ _ _ (by go_simp) (by go_simp) (by go_simp) (by go_simp) (Kd.C_below HR.out HB1.out)).out).mono ?_; rintro e w3 ⟨v3, rfl, ho, hb⟩; have HS := zM (Kd.S_lower ho (below_size HB1.out)); have HB := zM (below_step HB1.out hb); clear ho hb)
  go_ret
  exact ⟨_, rfl, by rw [← HE.out]; exact HS.out, HB.out⟩
end Go.Proofs.YtadjbmcfgjmhkaaGreat.P
namespace Go.Proofs.YtadjbmcfgjmhkaaGreat.P
open Go.RowKit Go.Proofs.YtadjbmcfgjmhkaaGreatW.PrintWords Go.Proofs.YtadjbmcfgjmhkaaGreatW.PrintLast Go.Proofs.YtadjbmcfgjmhkaaGreatW.PrintMore
attribute [local go_sem] max2_int min2_int max_two min_two max_three min_three max_four min_four   -- for this text's walks alone
set_option linter.unusedVariables false
set_option linter.unusedSimpArgs false

/-! ### impl_IndependentSets: function 61 -/
def impl_IndependentSets.f (k : Nat) (a0_0 : Int) (l0_1 : List (S69)) (a1 : Int) : Option ((List (List Int)) × Bool) := (impl_IsGraph.f k a0_0 l0_1).bind fun t312 => (if t312 = true then ((impl_between.f a1 0 8).bind fun t313 => (if t313 = true then ((impl_Graph_free.f a0_0 l0_1 a1 a1).bind fun t314 => (some (t314, true))) else (some (([] : List (List Int)), false)))) else (some (([] : List (List Int)), false)))
set_option maxHeartbeats 8000000 in
set_option maxRecDepth 100000 in
theorem impl_IndependentSets.calls (k : Nat) (a0_0 : Int) (A0_1 : Option Addr) (c0_1 : Nat) (l0_1 : List (S69)) (a1 : Int) (r1 : List (List Int)) (r2 : Bool) (w : World) (hr0_1 : Kd.C k69 w A0_1 l0_1.length l0_1) (hc0_1 : l0_1.length ≤ c0_1) (h : impl_IndependentSets.f k a0_0 l0_1 a1 = some (r1, r2)) :
 Calls Tryz.prog 61 #[.agg #[.int .i64 a0_0, .slice A0_1 l0_1.length c0_1], .int .i64 a1] w fun e w' => ∃ v0_ : Value, e = .returned (.tuple #[v0_, .bool r2]) ∧ Kd.S (Kd.slice 3 (Kd.int .i64)) 25 w' w.heap.size (fun _ => True) v0_ r1 ∧ Below w.heap.size w w' := by
 have hu30 := Tryz.underlying30
 have HR0_1 := Aside0.mk hr0_1
 have HC0_1 := Aside0.mk hc0_1
 clear hr0_1 hc0_1
 have HB := zM (Below.refl w.heap.size w)
 have H : ((impl_IsGraph.f k a0_0 l0_1).bind fun t312 => (if t312 = true then ((impl_between.f a1 0 8).bind fun t313 => (if t313 = true then ((impl_Graph_free.f a0_0 l0_1 a1 a1).bind fun t314 => (some (t314, true))) else (some (([] : List (List Int)), false)))) else (some (([] : List (List Int)), false)))) = some (r1, r2) := h
 clear h
 replace H := Option.bind_eq_some_iff.mp H
 obtain ⟨t312, A30, H⟩ := H
 replace H : (if t312 = true then ((impl_between.f a1 0 8).bind fun t313 => (if t313 = true then ((impl_Graph_free.f a0_0 l0_1 a1 a1).bind fun t314 => (some (t314, true))) else (some (([] : List (List Int)), false)))) else (some (([] : List (List Int)), false))) = some (r1, r2) := H
 have A3 := Aside0.mk A30
 clear A30
 by_cases c4 : t312 = true
 · subst c4
   have H1 : ((impl_between.f a1 0 8).bind fun t313 => (if t313 = true then ((impl_Graph_free.f a0_0 l0_1 a1 a1).bind fun t314 => (some (t314, true))) else (some (([] : List (List Int)), false)))) = some (r1, r2) := by rw [if_pos rfl] at H; exact H
   clear H
   have H := H1
   clear H1
   replace H := Option.bind_eq_some_iff.mp H
   obtain ⟨t313, A50, H⟩ := H
   replace H : (if t313 = true then ((impl_Graph_free.f a0_0 l0_1 a1 a1).bind fun t314 => (some (t314, true))) else (some (([] : List (List Int)), false))) = some (r1, r2) := H
   have A5 := Aside0.mk A50
   clear A50
   by_cases c6 : t313 = true
   · subst c6
     have H1 : ((impl_Graph_free.f a0_0 l0_1 a1 a1).bind fun t314 => (some (t314, true))) = some (r1, r2) := by rw [if_pos rfl] at H; exact H
     clear H
     have H := H1
     clear H1
     replace H := Option.bind_eq_some_iff.mp H
     obtain ⟨t314, A70, H⟩ := H
     replace H : (some (t314, true)) = some (r1, r2) := H
     have A7 := Aside0.mk A70
     clear A70
     simp only [Option.some.injEq, Prod.mk.injEq] at H
     obtain ⟨rfl, rfl⟩ := H
     go_enter Tryz.func61, Tryz.ntmps61
     go_wp2_with (first | ((with_reducible refine gate_dst (N := 2) rfl ?_); refine zb (w := w) 2 #[.int .i64 a0_0, .slice A0_1 l0_1.length c0_1] 30 zB ?_; clear HB; intro gb311 w8 HB BK311 GW311; have GE311 := GW311; have hcz9_0 := zy BK311 0; have hcz9_1 := zy BK311 1; have hfz9_0 := blk_frozen BK311.out 0; have hfz9_1 := blk_frozen BK311.out 1) | ((with_reducible refine gate_callee (f := 59) rfl ?_); refine zc 7 Tryz.func59 #[.agg #[.int .i64 a0_0, .slice A0_1 l0_1.length c0_1]] ?_; (with_reducible refine (impl_IsGraph.calls k a0_0 _ _ l0_1 true _ ?side1 ?side2 A3.out).mono ?_); (case side1 => exact zC (Kd.C_below HR0_1.out HB.out)); (case side2 => exact HC0_1.out); rintro e w10 ⟨rfl, hb⟩; refine ⟨_, rfl, ?_⟩; replace BK311 := zM (blk_below (g := gb311) (o := .cells #[.int .i64 a0_0, .slice A0_1 l0_1.length c0_1] 30 (0, 0)) (zK BK311.out) hb); replace HB := zM (below_step zB hb); (try clear hb); (try clear hb2); (try clear hk); (try clear hi)) | (go_at_call 77; (with_reducible refine (impl_between.calls a1 0 8 true _ A5.out).mono ?_); rintro e w' ⟨rfl, ⟨nd, rfl⟩⟩; have hcz11_0 := zy BK311 0; have hcz11_1 := zy BK311 1; have hfz11_0 := blk_frozen BK311.out 0; have hfz11_1 := blk_frozen BK311.out 1) | ((with_reducible refine gate_callee (f := 78) rfl ?_); refine zc 17 Tryz.func78 #[.agg #[.int .i64 a0_0, .slice A0_1 l0_1.length c0_1], .int .i64 a1, .int .i64 a1] ?_; (with_reducible refine (impl_Graph_free.calls a0_0 _ _ l0_1 a1 a1 t314 _ ?side1 ?side2 A7.out).mono ?_); (case side1 => exact zC (Kd.C_below HR0_1.out zB)); (case side2 => exact HC0_1.out); rintro e w12 ⟨v315, rfl, ho0, hb⟩; refine ⟨_, rfl, ?_⟩; have HO316 := zM (Kd.S_lower ho0 (below_size zB)); replace BK311 := zM (blk_below (g := gb311) (o := .cells #[.int .i64 a0_0, .slice A0_1 l0_1.length c0_1] 30 (0, 0)) (zK BK311.out) hb); replace HB := zM (below_step zB hb); (try clear hb); (try clear hb2); (try clear hk); (try clear hi); (try clear ho0)))
     go_ret2
     exact ⟨_, by first | rfl | (simp [errW_none, errW_some] <;> rfl) | (simp [*, errW_none, errW_some] <;> rfl), by (with_reducible repeat (first | apply Kd.S_alloc | apply Kd.S_drewN | apply Kd.S_drew)); exact HO316.out, zB⟩
   · replace c6 := Bool.eq_false_iff.mpr c6
     subst c6
     have H1 : (some (([] : List (List Int)), false)) = some (r1, r2) := by rw [if_neg (show ¬ (false = true) by decide)] at H; exact H
     clear H
     have H := H1
     clear H1
     simp only [Option.some.injEq, Prod.mk.injEq] at H
     obtain ⟨rfl, rfl⟩ := H
     go_enter Tryz.func61, Tryz.ntmps61
     go_wp2_with (first | ((with_reducible refine gate_dst (N := 2) rfl ?_); refine zb (w := w) 2 #[.int .i64 a0_0, .slice A0_1 l0_1.length c0_1] 30 zB ?_; clear HB; intro gb311 w13 HB BK311 GW311; have GE311 := GW311; have hcz14_0 := zy BK311 0; have hcz14_1 := zy BK311 1; have hfz14_0 := blk_frozen BK311.out 0; have hfz14_1 := blk_frozen BK311.out 1) | ((with_reducible refine gate_callee (f := 59) rfl ?_); refine zc 7 Tryz.func59 #[.agg #[.int .i64 a0_0, .slice A0_1 l0_1.length c0_1]] ?_; (with_reducible refine (impl_IsGraph.calls k a0_0 _ _ l0_1 true _ ?side1 ?side2 A3.out).mono ?_); (case side1 => exact zC (Kd.C_below HR0_1.out HB.out)); (case side2 => exact HC0_1.out); rintro e w15 ⟨rfl, hb⟩; refine ⟨_, rfl, ?_⟩; replace BK311 := zM (blk_below (g := gb311) (o := .cells #[.int .i64 a0_0, .slice A0_1 l0_1.length c0_1] 30 (0, 0)) (zK BK311.out) hb); replace HB := zM (below_step zB hb); (try clear hb); (try clear hb2); (try clear hk); (try clear hi)) | (go_at_call 77; (with_reducible refine (impl_between.calls a1 0 8 false _ A5.out).mono ?_); rintro e w' ⟨rfl, ⟨nd, rfl⟩⟩))
     go_ret2
     exact ⟨_, by first | rfl | (simp [errW_none, errW_some] <;> rfl) | (simp [*, errW_none, errW_some] <;> rfl), by first | exact Kd.S_nil _ _ _ _ _ | exact Kd.N_nil _ _ _ _ _ | exact Kd.V_nil _ _ _ _ _ | exact Kd.Q_nil _ _ _ _ _ | exact Kd.R_nil _ _ _ _ _, zB⟩
 · replace c4 := Bool.eq_false_iff.mpr c4
   subst c4
   have H1 : (some (([] : List (List Int)), false)) = some (r1, r2) := by rw [if_neg (show ¬ (false = true) by decide)] at H; exact H
   clear H
   have H := H1
   clear H1
   simp only [Option.some.injEq, Prod.mk.injEq] at H
   obtain ⟨rfl, rfl⟩ := H
   go_enter Tryz.func61, Tryz.ntmps61
   go_wp2_with (first | ((with_reducible refine gate_dst (N := 2) rfl ?_); refine zb (w := w) 2 #[.int .i64 a0_0, .slice A0_1 l0_1.length c0_1] 30 zB ?_; clear HB; intro gb311 w16 HB BK311 GW311; have GE311 := GW311; have hcz17_0 := zy BK311 0; have hcz17_1 := zy BK311 1; have hfz17_0 := blk_frozen BK311.out 0; have hfz17_1 := blk_frozen BK311.out 1) | ((with_reducible refine gate_callee (f := 59) rfl ?_); refine zc 7 Tryz.func59 #[.agg #[.int .i64 a0_0, .slice A0_1 l0_1.length c0_1]] ?_; (with_reducible refine (impl_IsGraph.calls k a0_0 _ _ l0_1 false _ ?side1 ?side2 A3.out).mono ?_); (case side1 => exact zC (Kd.C_below HR0_1.out HB.out)); (case side2 => exact HC0_1.out); rintro e w18 ⟨rfl, hb⟩; refine ⟨_, rfl, ?_⟩; replace BK311 := zM (blk_below (g := gb311) (o := .cells #[.int .i64 a0_0, .slice A0_1 l0_1.length c0_1] 30 (0, 0)) (zK BK311.out) hb); replace HB := zM (below_step zB hb); (try clear hb); (try clear hb2); (try clear hk); (try clear hi)))
   go_ret2
   exact ⟨_, by first | rfl | (simp [errW_none, errW_some] <;> rfl) | (simp [*, errW_none, errW_some] <;> rfl), by first | exact Kd.S_nil _ _ _ _ _ | exact Kd.N_nil _ _ _ _ _ | exact Kd.V_nil _ _ _ _ _ | exact Kd.Q_nil _ _ _ _ _ | exact Kd.R_nil _ _ _ _ _, zB⟩

end Go.Proofs.YtadjbmcfgjmhkaaGreat.P
namespace Go.Proofs.YtadjbmcfgjmhkaaGreat.P
open Go.RowKit Go.Proofs.YtadjbmcfgjmhkaaGreatW.PrintWords Go.Proofs.YtadjbmcfgjmhkaaGreatW.PrintLast Go.Proofs.YtadjbmcfgjmhkaaGreatW.PrintMore
set_option linter.unusedVariables false
set_option linter.unusedSimpArgs false

def onlyL (a b : List Int) : List Int := a.filter fun x => !decide (x ∈ b)
def jumpS (x y : List Int) : Bool := (onlyL x y).length == 1 && (onlyL y x).length == 1
def addS (x y : List Int) : Bool := (onlyL x y).length + (onlyL y x).length == 1
def nearE (es : List S69) (a b : Int) : Bool := es.any fun e => (e.f0 == a && e.f1 == b) || (e.f0 == b && e.f1 == a)
def slideS (es : List S69) (x y : List Int) : Bool := jumpS x y && nearE es ((onlyL x y).headD 0) ((onlyL y x).headD 0)
def spaceR (ok : Bool) (st : List Int → List Int → Bool) (t : List (List Int)) : Option (List (List Int) × List S69 × Bool) :=
  if t.length ≤ 1024 ∧ ok = true then some (sortLL t, allSteps st 0 (sortLL t), true) else none
def allAre (f : List Int → List Int → Option Bool) (st : List Int → List Int → Bool) (t : List (List Int)) : Bool := decide (∀ x ∈ t, ∀ y ∈ t, f x y = some (st x y))
theorem add_at (k : Nat) (ls : List (List Int)) (w : World) (h : ∀ x ∈ ls, ∀ y ∈ ls, impl_isAdding.f k x y = some (addS x y)) : StepAt 79 #[] #[] addS ls w := by
  intro W x y A B c c' hx hy hb ha hc hb' hc'
  have h0 := impl_isAdding.calls k A c x B c' y _ W ha hc hb' hc' (h x hx y hy)
  rw [show (#[] : Array Value) ++ (#[.slice A x.length c, .slice B y.length c'] ++ #[]) = #[.slice A x.length c, .slice B y.length c'] from by simp]
  exact h0.mono fun e w' h => ⟨h.1, by first | exact h.2 | exact Drawn0.below h.2⟩
theorem slide_at (k : Nat) (a0 : Int) (A1 : Option Addr) (c1 : Nat) (l1 : List S69) (ls : List (List Int)) (w : World) (hr : Kd.C k69 w A1 l1.length l1) (hc1 : l1.length ≤ c1) (h : ∀ x ∈ ls, ∀ y ∈ ls, impl_Graph_isSlide.f k a0 l1 x y = some (slideS l1 x y)) : StepAt 68 #[.agg #[.int .i64 a0, .slice A1 l1.length c1]] #[] (slideS l1) ls w := by
  intro W x y A B c c' hx hy hb ha hc hb' hc'
  have h0 := impl_Graph_isSlide.calls k a0 A1 c1 l1 A c x B c' y _ W (Kd.C_below hr hb) hc1 ha hc hb' hc' (h x hx y hy)
  rw [show (#[.agg #[.int .i64 a0, .slice A1 l1.length c1]] : Array Value) ++ (#[.slice A x.length c, .slice B y.length c'] ++ #[]) = #[.agg #[.int .i64 a0, .slice A1 l1.length c1], .slice A x.length c, .slice B y.length c'] from by simp]
  exact h0.mono fun e w' h => ⟨h.1, by first | exact h.2 | exact Drawn0.below h.2⟩
def impl_SlideSpace.f (k : Nat) (a0_0 : Int) (l0_1 : List S69) (a1 : Int) : Option (List (List Int) × List S69 × Bool) :=
  (impl_IndependentSets.f k a0_0 l0_1 a1).bind fun t => if t.2 = true then spaceR (allAre (impl_Graph_isSlide.f k a0_0 l0_1) (slideS l0_1) t.1) (slideS l0_1) t.1 else some ([], [], false)
set_option maxRecDepth 100000 in
set_option maxHeartbeats 2000000 in
theorem impl_SlideSpace.calls (k : Nat) (a0_0 : Int) (A0_1 : Option Addr) (c0_1 : Nat) (l0_1 : List (S69)) (a1 : Int) (r1 : List (List Int)) (r2 : List S69) (r3 : Bool) (w : World) (hr0_1 : Kd.C k69 w A0_1 l0_1.length l0_1) (hc0_1 : l0_1.length ≤ c0_1) (h : impl_SlideSpace.f k a0_0 l0_1 a1 = some (r1, r2, r3)) :
    Calls Tryz.prog 41 #[.agg #[.int .i64 a0_0, .slice A0_1 l0_1.length c0_1], .int .i64 a1] w fun e w' => ∃ v0_ v1_ : Value, e = .returned (.tuple #[.agg #[v0_, v1_], .bool r3]) ∧ Kd.S (Kd.slice 3 (Kd.int .i64)) 25 w' w.heap.size (fun _ => True) v0_ r1 ∧ Kd.R k69 69 w' w.heap.size (fun _ => True) v1_ r2 ∧ Below w.heap.size w w' := by
  have hu := Tryz.underlying52
  have hug := Tryz.underlying30
  have HR := zM hr0_1
  have HC := zM hc0_1
  have HB := zM (Below.refl w.heap.size w)
  clear hr0_1 hc0_1
  unfold impl_SlideSpace.f at h
  obtain ⟨t, ht, h⟩ := Option.bind_eq_some_iff.mp h
  obtain ⟨ls, b⟩ := t
  have HT := zM ht
  clear ht
  cases b with
  | false =>
    simp only [Bool.false_eq_true, if_false, Option.some.injEq, Prod.mk.injEq] at h
    obtain ⟨rfl, rfl, rfl⟩ := h
    go_enter Tryz.func41, Tryz.ntmps41
    go_wp2_with (first
      | ((with_reducible refine gate_dst (N := 2) rfl ?_); refine ze 2 #[.int .i64 a0_0, .slice A0_1 l0_1.length c0_1] 30 ?_; intro g2 hg w1 hbox hb; have BK2 := zM hbox; replace HB := zM (below_step HB.out hb); clear hg hbox hb)
      | ((with_reducible refine gate_dst (N := 4) rfl ?_); refine ze 4 #[.slice none 0 0, .slice none 0 0] 52 ?_; intro g4 hg w2 hbox hb; have BK4 := zM hbox; have HG4 := zM (show w.heap.size ≤ g4 by rw [hg]; exact below_size HB.out); replace HB := zM (below_step HB.out hb); replace BK2 := zM (blk_below BK2.out hb); clear hg hbox hb; have hd0 := zy BK2 0; have hd1 := zy BK2 1)
      | (go_at_call 61; refine (impl_IndependentSets.calls k a0_0 A0_1 c0_1 l0_1 a1 _ _ _ (Kd.C_below HR.out HB.out) HC.out HT.out).mono ?_; rintro e w3 ⟨v3, rfl, ho, hb⟩; have BK2b := zM (blk_below BK2.out hb); have BK4b := zM (blk_below BK4.out hb); have HB3 := zM (below_step HB.out hb); have HBs := zM hb; have HS := zM ho; clear hb ho; have hc0 := zy BK4b 0; have hc1 := zy BK4b 1; have hf0 := blk_frozen BK4b.out 0; have hf1 := blk_frozen BK4b.out 1; clear hd0 hd1; have hd0 := zy BK2b 0; have hd1 := zy BK2b 1; have hg0 := blk_frozen BK2b.out 0; have hg1 := blk_frozen BK2b.out 1))
    (try simp only [Exit.inBlock, Exit.then])
    refine bodyPost_ret (results_ct rfl _ _ g4 52 #[.slice none 0 0, .slice none 0 0] (0, 0) _ rfl (blk_put (cs := #[.slice none 0 0, .slice none 0 0]) (blk_put (cs := #[.slice none 0 0, .slice none 0 0]) BK4b.out 0 _ rfl) 1 _ rfl) hu rfl (by kernel_rfl)) rfl ?_
    exact ⟨_, _, by first | rfl | (simp; done), Kd.S_nil _ _ _ _ _, Kd.R_nil _ _ _ _ _, below_set (below_set HB3.out HG4.out) HG4.out⟩
  | true =>
    simp only [if_true] at h
    unfold spaceR at h
    by_cases c : ls.length ≤ 1024 ∧ allAre (impl_Graph_isSlide.f k a0_0 l0_1) (slideS l0_1) ls = true
    case neg => rw [if_neg c] at h; cases h
    rw [if_pos c] at h
    simp only [Option.some.injEq, Prod.mk.injEq] at h
    obtain ⟨rfl, rfl, rfl⟩ := h
    have HST := zM (of_decide_eq_true c.2)
    have HL := zM c.1
    clear c
    go_enter Tryz.func41, Tryz.ntmps41
    go_wp2_with (first
      | ((with_reducible refine gate_dst (N := 2) rfl ?_); refine ze 2 #[.int .i64 a0_0, .slice A0_1 l0_1.length c0_1] 30 ?_; intro g2 hg w1 hbox hb; have BK2 := zM hbox; replace HB := zM (below_step HB.out hb); clear hg hbox hb)
      | ((with_reducible refine gate_dst (N := 4) rfl ?_); refine ze 4 #[.slice none 0 0, .slice none 0 0] 52 ?_; intro g4 hg w2 hbox hb; have BK4 := zM hbox; have HG4 := zM (show w.heap.size ≤ g4 by rw [hg]; exact below_size HB.out); replace HB := zM (below_step HB.out hb); replace BK2 := zM (blk_below BK2.out hb); clear hg hbox hb; have hd0 := zy BK2 0; have hd1 := zy BK2 1)
      | (go_at_call 61; refine (impl_IndependentSets.calls k a0_0 A0_1 c0_1 l0_1 a1 _ _ _ (Kd.C_below HR.out HB.out) HC.out HT.out).mono ?_; rintro e w3 ⟨v3, rfl, ho, hb⟩; have BK2b := zM (blk_below BK2.out hb); have BK4b := zM (blk_below BK4.out hb); have HB3 := zM (below_step HB.out hb); have HBs := zM hb; have HS := zM ho; clear hb ho; have hc0 := zy BK4b 0; have hc1 := zy BK4b 1; have hf0 := blk_frozen BK4b.out 0; have hf1 := blk_frozen BK4b.out 1; clear hd0 hd1; have hd0 := zy BK2b 0; have hd1 := zy BK2b 1; have hg0 := blk_frozen BK2b.out 0; have hg1 := blk_frozen BK2b.out 1)
      | (go_at_call 62; refine (spaceOf_calls 68 #[.agg #[.int .i64 a0_0, .slice A0_1 l0_1.length c0_1]] #[] (enters_of Tryz.func68 (by kernel_rfl) rfl) (slideS l0_1) v3 ls w2 w3 HBs.out HS.out HL.out (slide_at k a0_0 A0_1 c0_1 l0_1 ls w2 (Kd.C_below HR.out HB.out) HC.out HST.out)).mono ?_; rintro e w5 ⟨v5, v6, rfl, h0, h1, hb⟩; clear hc0 hc1 hf0 hf1 BK4b; have BK4b := zM (blk_below BK4.out hb); have HB5 := zM (below_step HB.out hb); have HS5 := zM (Kd.S_lower h0 (below_size HB.out)); have HR5 := zM (Kd.R_lower h1 (below_size HB.out)); clear h0 h1 hb; obtain ⟨A5, c5, e5⟩ := Kd.S_slice HS5.out; subst e5; obtain ⟨A6, c6, e6⟩ := Kd.R_slice HR5.out; subst e6; have hc0 := zy BK4b 0; have hc1 := zy BK4b 1; have hf0 := blk_frozen BK4b.out 0; have hf1 := blk_frozen BK4b.out 1))
    (try simp only [Exit.inBlock, Exit.then])
    refine bodyPost_ret (results_ct rfl _ _ g4 52 #[.slice A5 (sortLL ls).length c5, .slice A6 (allSteps (slideS l0_1) 0 (sortLL ls)).length c6] (0, 0) _ rfl (blk_put (cs := #[.slice A5 (sortLL ls).length c5, .slice none 0 0]) (blk_put (cs := #[.slice none 0 0, .slice none 0 0]) BK4b.out 0 _ rfl) 1 _ rfl) hu rfl (by kernel_rfl)) rfl ?_
    refine ⟨_, _, by first | rfl | (simp; done), ?_, ?_, below_set (below_set HB5.out HG4.out) HG4.out⟩
    · exact Kd.S_mono (Kd.S_far (p := ⟨g4, 1, none⟩) (Kd.S_far (p := ⟨g4, 0, none⟩) (Kd.S_types HS5.out BK4b.out (by decide)) (fun _ hk => hk.2) _) (fun _ hk => hk.2) _) (fun _ _ => trivial)
    · exact Kd.R_mono (Kd.R_far (p := ⟨g4, 1, none⟩) (Kd.R_far (p := ⟨g4, 0, none⟩) (Kd.R_types HR5.out BK4b.out (by decide)) (fun _ hk => hk.2) _) (fun _ hk => hk.2) _) (fun _ _ => trivial)
end Go.Proofs.YtadjbmcfgjmhkaaGreat.P
