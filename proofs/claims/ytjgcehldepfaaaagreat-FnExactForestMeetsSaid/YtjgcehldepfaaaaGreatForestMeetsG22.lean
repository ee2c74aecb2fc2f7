/- impl's (Graph).sets: all sets of nodes of which something is so, in order; for every world. -/
import Derived.Test.YtjgcehldepfaaaaGreatForestMeetsG20
import Derived.Test.YtjgcehldepfaaaaGreatForestMeetsG21
namespace Go.Proofs.YtjgcehldepfaaaaGreat.P
open Go.RowKit YtjgcehldepfaaaaGreatW.PrintWords Go.Proofs.YtjgcehldepfaaaaGreatW.PrintLast Go.Proofs.YtjgcehldepfaaaaGreatW.PrintMore
set_option maxRecDepth 100000
set_option maxHeartbeats 8000000
set_option linter.unusedVariables false
set_option linter.unusedSimpArgs false
theorem tJ : n3 74 bI := by
 intro W x y A B c c' hx hc hy hc'
 refine (lI (x.length + 1) A c x B c' y (bI x y) W hx hc hy hc' (lJ x y hx.2.1 _ (Nat.lt_succ_self _))).mono ?_
 rintro e w' ⟨rfl, ⟨n, rfl⟩⟩
 exact ⟨rfl, n, #[], (Sort.grow_empty _).symm⟩
theorem kc : ltOf bI = aZ := by
 funext x y
 unfold ltOf
 rw [Bool.eq_iff_iff, decide_eq_true_eq]
 exact kF x y
theorem oz : Sort.SWO aZ := ⟨iK, fun x y z => kK x y z, fun x y z => nN⟩
theorem sortLists.calls (P0_ : Nat → Prop) (u9000_ : Value) (l0 : List (List Int)) (w0 w : World) (hB : Below w0.heap.size w0 w) (ho0 : Kd.S (Kd.slice 3 (Kd.int .i64)) 25 w w0.heap.size P0_ u9000_ l0) (hlen : l0.length < 4611686018427387904) :
  Calls Tryz.prog 88 #[u9000_, .func (.func 74) #[] #[]] w fun e w' => e = .returned (.tuple #[]) ∧ Kd.S (Kd.slice 3 (Kd.int .i64)) 25 w' w0.heap.size (fun k_ => (P0_ k_ ∨ w.heap.size ≤ k_)) u9000_ (bQ l0) ∧ Below w0.heap.size w0 w' ∧ Kept w w' (fun k_ => P0_ k_) := by
 have h := pg Tryz.laysSlF6_f88 Tryz.laysSlF06_f88 88 rfl rfl bI (by rw [kc]; exact oz) (by rw [kc]; exact kJ) 74 (enters_of Tryz.func74 (by kernel_rfl) rfl) tJ P0_ u9000_ l0 w0 w hB ho0 hlen
 rw [kc] at h
 exact h
def cA (p : Int → Bool) (n : Nat) : List (List Int) := (aI p n 0).map fun b => aI (aA b) 8 0
theorem tN (p : Int → Bool) (n : Nat) : cA p (n + 1) = cA p n ++ (if p (n : Int) = true then [aI (aA (n : Int)) 8 0] else []) := by
 unfold cA
 rw [lO, List.map_append]
 congr 1
 simp only [aI, List.append_nil, Int.zero_add]
 split <;> rfl
theorem kE (p : Int → Bool) (n : Nat) : (cA p n).length ≤ n := by
 unfold cA
 rw [List.length_map]
 exact pu p n 0
theorem ur : ∀ n : Fin 9, us n = ((2 ^ n.val - 1 : Nat) : Int) := by decide +kernel
theorem un (a : Int) (l : List S63) (h0 : 0 ≤ a) (h8 : a ≤ 8) : jw a l = some ((2 ^ a.toNat - 1 : Nat) : Int) := by
 unfold jw
 rw [if_pos h0]
 obtain ⟨i, rfl⟩ := d9 (n := 9) h0 (by omega)
 exact congrArg some (ur i)
def PredN (g : Nat) (lb : Array Value) (p : Int → Bool) (N : Nat) (w : World) : Prop :=
 ∀ (W : World) (b : Int), 0 ≤ b → b < (N : Int) → Below w.heap.size w W → Calls Tryz.prog g (#[.int .u64 b] ++ lb) W fun e w' => e = .returned (.bool (p b)) ∧ Below W.heap.size W w'
theorem PredN.mono {g : Nat} {lb : Array Value} {p : Int → Bool} {N : Nat} {w w' : World} (h : PredN g lb p N w) (hb : Below w.heap.size w w') : PredN g lb p N w' := fun W b h0 h1 h2 => h W b h0 h1 (ag hb h2)
set_option maxHeartbeats 2000000 in
theorem pq (g : Nat) (lb : Array Value) (eg : ∀ (args : Array Value) (w : World), (callFunc g args).run Tryz.prog w = .ok (.enter g args) w) (p : Int → Bool) (a0 : Int) (h0 : 0 ≤ a0) (h8 : a0 ≤ 8) (A1 : Option Addr) (c1 : Nat) (l1 : List S63) (w : World)
  (hr : Kd.C k63 w A1 l1.length l1) (hc : l1.length ≤ c1) (hp : PredN g lb p (2 ^ a0.toNat) w) :
  Calls Tryz.prog 106 #[.agg #[.int .i64 a0, .slice A1 l1.length c1], .func (.func g) #[] lb] w fun e w' => ∃ v : Value, e = .returned v ∧ Kd.S (Kd.slice 3 (Kd.int .i64)) 25 w' w.heap.size (fun _ => True) v (bQ (cA p (2 ^ a0.toNat))) ∧ Below w.heap.size w w' := by
 have hu43 := Tryz.underlying29
 have hpow : 2 ^ a0.toNat ≤ 256 := Nat.pow_le_pow_right (n := 2) (by decide) (show a0.toNat ≤ 8 by omega)
 have hpos : 0 < 2 ^ a0.toNat := Nat.pow_pos (by decide)
 obtain ⟨M, hM⟩ : ∃ M : Nat, 2 ^ a0.toNat = M + 1 := ⟨2 ^ a0.toNat - 1, by omega⟩
 have hall := un a0 l1 h0 h8
 rw [hM, Nat.add_sub_cancel] at hall
 rw [hM] at hpow hp ⊢
 have HAL := zM hall
 have HM := zM hpow
 have HR := zM hr
 have HC := zM hc
 have HP := zM hp
 have HB := zM (Below.refl w.heap.size w)
 clear hr hc hp hall hpow hpos hM h0 h8
 go_enter Tryz.func106, Tryz.ntmps106
 go_wp2_with (first | ((with_reducible refine au (N := 2) rfl ?_); refine zb (w := w) 2 #[.int .i64 a0, .slice A1 l1.length c1] 29 zB ?_; clear HB; intro gb w3 HB BK GW) | ((with_reducible refine au (N := 7) rfl ?_); refine Kd.S_lit (Kd.slice 3 (Kd.int .i64)) _ 25 ?hg (N := 7) ?hd (xs := ([] : List (List Int))) (inner := []) (ok := fun _ => True) (okp := fun _ => True) ?hr ?hp (fun _ hk => hk) trivial (Below.refl _ _) (ar _) (by simp) ?_; (case hd => rfl); (case hg => rfl); (case hr => first | (go_simp; done) | (go_simp; rfl)); (case hp => exact (Reps.none _ _)); intro v4 w4 ho5 hb hg_ hnew_; clear hg_ hnew_; have HO := zM (Kd.S_lower ho5 (am zB)); replace BK := zM (bw (zK BK.out) hb); replace HB := zM (ag zB hb); clear hb ho5))
 go_loopg [5, 6] (M + 2) (fun kq v5 v6 w' => ∃ (m : Nat), v6 = .int .u64 (m : Int) ∧ Aside0 (m ≤ M + 1) ∧ Aside0 (kq = M + 2 - m) ∧ Aside0 (Kd.S (Kd.slice 3 (Kd.int .i64)) 25 w' w.heap.size (fun _ => True) v5 (cA p m)) ∧ Aside0 (w'.heap[gb]? = some (.cells #[.int .i64 a0, .slice A1 l1.length c1] 29 (0, 0))) ∧ Aside0 (Below w.heap.size w w'))
 case atStart => exact ⟨0, by first | rfl | (simp; done), ⟨Nat.zero_le _⟩, ⟨by omega⟩, HO, BK, HB⟩
 case round =>
  clear HO BK HB
  obtain ⟨m, rfl, HM1, HK1, HO, BK, HB⟩ := hrel
  have hcz0 := zy BK 0
  have hcz1 := zy BK 1
  have hfz0 := ae BK.out 0
  have hfz1 := ae BK.out 1
  by_cases c1_ : m ≤ M
  · have q1 : (m : Int) ≤ (M : Int) := by omega
    have c1b : decide ((m : Int) ≤ (M : Int)) = true := af q1
    have c1c : decide (m ≤ M) = true := af c1_
    have HW := zM (show IntKind.u64.wrap ((m : Int) + 1) = ((m + 1 : Nat) : Int) by have := HM.out; show ((m : Int) + 1) % 18446744073709551616 = _; omega)
    have HLe := zM c1_
    have HX := zM (HP.out.mono HB.out)
    have HLn := zM (kE p m)
    have HS := zM (tN p m)
    obtain ⟨kf, hf⟩ := Ev.rounds (iL (m : Int))
    have HF := zM hf
    clear q1 c1_ hf
    cases hq : p (m : Int) with
    | true =>
     rw [hq, if_pos rfl] at HS
     have HQ := zM hq
     clear hq
     generalize cA p m = xs at HO HLn HS
     go_wp2_with (first
      | (go_at_call 117; refine (kw a0 _ _ l1 (M : Int) _ (zC (Kd.C_below HR.out HB.out)) HC.out HAL.out).mono ?_; rintro e w5 ⟨rfl, hb⟩; replace HO := zM (Kd.S_below HO.out hb); replace BK := zM (bw (zK BK.out) hb); replace HX := zM (HX.out.mono hb); replace HB := zM (ag zB hb); clear hb)
      | (go_at_fn g; refine (HX.out _ (m : Int) (by omega) (by have := HLe.out; omega) (Below.refl _ _)).mono ?_; rw [HQ.out]; rintro e w6 ⟨rfl, hb⟩; replace HO := zM (Kd.S_below HO.out hb); replace BK := zM (bw (zK BK.out) hb); replace HB := zM (ag zB hb); clear hb)
      | (go_at_call 33; refine (iy kf _ (aI (aA (m : Int)) 8 0) _ HF.out).mono ?_; rintro e w7 ⟨v7, rfl, ho0, hb⟩; replace HO := zM (Kd.S_elder' HO.out (Kd.R_base ho0) hb); have HI := zM (Kd.R_lower ho0 (am zB)); replace BK := zM (bw (zK BK.out) hb); replace HB := zM (ag zB hb); clear ho0 hb; generalize aI (aA (m : Int)) 8 0 = row at HI HS; obtain ⟨Ao, co, eo⟩ := Kd.R_slice HI.out; subst eo)
      | ((with_reducible refine cJ (b := .append) (xs := #[.tmp 17, .tmp 20]) rfl ?_); at_builtin; refine Kd.S_append (Kd.slice 3 (Kd.int .i64)) (w0 := w) w.heap.size rfl (.tmp 17) (.tmp 20) 48 25 (.slice none 0 0) 24 rfl Tryz.underlying48 iu rfl (by decide) (by omega) u5 xs row [.slice Ao row.length co] (fun _ => True) (fun k_ => some k_ = (.slice Ao row.length co : Value).ownBlock) rfl rfl ?aP (fun k_ hk_ => ((Kd.R_mono (ok' := fun k_ => ((fun _ => True)) k_ ∧ some k_ ≠ (u5 : Value).ownBlock) (Kd.R_apart' (HI.out) (Kd.S_typed HO.out) (by decide)) (fun k_ hk => ⟨trivial, hk.2⟩))).1 k_ hk_.symm) ?aF ?aO ?aB ?aS ?aL ?_; (case aP => exact Kd.M_row (Kd.R_mono (Kd.R_tight rfl (Kd.R_mono (ok' := fun k_ => ((fun _ => True)) k_ ∧ some k_ ≠ (u5 : Value).ownBlock) (Kd.R_apart' (HI.out) (Kd.S_typed HO.out) (by decide)) (fun k_ hk => ⟨trivial, hk.2⟩))) (fun _ h_ => h_))); (case aB => exact zB); (case aF => exact (fun _ _ => trivial)); (case aO => exact (by (with_reducible repeat (first | apply Kd.S_alloc | apply Kd.S_drewN | apply Kd.S_drew)); exact Kd.S_mono HO.out (fun k_ hk => ⟨trivial, fun e_ => hk.2 e_⟩))); (case aS => exact (am zB)); (case aL => have := HLn.out; have := HM.out; have := HLe.out; omega); intro v8 w8 ho hb hg hat; rw [← HS.out] at ho; replace BK := zM (cU (zK BK.out) hg (Kd.S_ne HO.out BK.out (by decide))); replace HB := zM hb; replace HO := zM ho; clear ho hb hg hat))
     go_roundg (M + 1 - m)
     case measure => have := HK1.out; have := HLe.out; omega
     case rel => exact ⟨m + 1, by first | rfl | exact congrArg (Value.int .u64) HW.out | (rw [HW.out]; done), ⟨by have := HLe.out; omega⟩, ⟨by omega⟩, HO, BK, HB⟩
    | false =>
     rw [hq, if_neg (by decide), List.append_nil] at HS
     have HQ := zM hq
     clear hq
     rw [← HS.out] at HO
     go_wp2_with (first
      | (go_at_call 117; refine (kw a0 _ _ l1 (M : Int) _ (zC (Kd.C_below HR.out HB.out)) HC.out HAL.out).mono ?_; rintro e w5 ⟨rfl, hb⟩; replace HO := zM (Kd.S_below HO.out hb); replace BK := zM (bw (zK BK.out) hb); replace HX := zM (HX.out.mono hb); replace HB := zM (ag zB hb); clear hb)
      | (go_at_fn g; refine (HX.out _ (m : Int) (by omega) (by have := HLe.out; omega) (Below.refl _ _)).mono ?_; rw [HQ.out]; rintro e w6 ⟨rfl, hb⟩; replace HO := zM (Kd.S_below HO.out hb); replace BK := zM (bw (zK BK.out) hb); replace HB := zM (ag zB hb); clear hb))
     go_roundg (M + 1 - m)
     case measure => have := HK1.out; have := HLe.out; omega
     case rel => exact ⟨m + 1, by first | rfl | exact congrArg (Value.int .u64) HW.out | (rw [HW.out]; done), ⟨by have := HLe.out; omega⟩, ⟨by omega⟩, HO, BK, HB⟩
  · have q1 : ¬ (m : Int) ≤ (M : Int) := by omega
    have c1b : decide ((m : Int) ≤ (M : Int)) = false := ao q1
    have c1c : decide (m ≤ M) = false := ao c1_
    have hm : m = M + 1 := by have := HM1.out; omega
    have HE := zM hm
    have HLn := zM (kE p m)
    clear q1 c1_ hm
    go_wp2_with (first
      | (go_at_call 117; refine (kw a0 _ _ l1 (M : Int) _ (zC (Kd.C_below HR.out HB.out)) HC.out HAL.out).mono ?_; rintro e w5 ⟨rfl, hb⟩; replace HO := zM (Kd.S_below HO.out hb); replace BK := zM (bw (zK BK.out) hb); replace HB := zM (ag zB hb); clear hb)
      | (go_at_call 88; refine (sortLists.calls (fun _ => True) _ (cA p m) w _ HB.out HO.out (by have := HLn.out; have := HE.out; have := HM.out; omega)).mono ?_; rintro e w9 ⟨rfl, ho, hb, hk⟩; replace HO := zM (Kd.S_mono (ok' := fun _ => True) ho (fun _ _ => trivial)); replace HB := zM hb; clear ho hb hk))
    go_ret
    exact ⟨_, rfl, by rw [← HE.out]; exact HO.out, HB.out⟩
section
variable {α : Type} {d : Kd α} {e base : Nat} {ok S : Nat → Prop} {w W W1 : World} {v : Value} {xs : List α} {g : Nat} {o : Obj}
theorem uR (hB : Below w.heap.size w W) (h : d.R e W1 W.heap.size (fun _ => True) v xs) : Aside0 (d.R e W1 w.heap.size (fun k => W.heap.size ≤ k ∧ k < W1.heap.size) v xs) :=
 ⟨Kd.R_mono (Kd.R_lower (Kd.R_bound h) (am hB)) (fun k hk => ⟨hk.2.1, hk.2.2.1⟩)⟩
theorem bL (h : Aside0 (d.R e W base ok v xs)) (hb : Below W.heap.size W W1) : Aside0 (d.R e W1 base ok v xs) := ⟨Kd.R_below h.out hb⟩
theorem eh (h : Aside0 (Kd.S d e W base ok v xs)) (hb : Below W.heap.size W W1) : Aside0 (Kd.S d e W1 base ok v xs) := ⟨Kd.S_below h.out hb⟩
theorem aG (h : Aside0 (W.heap[g]? = some o)) (hb : Below W.heap.size W W1) : Aside0 (W1.heap[g]? = some o) := ⟨bw h.out hb⟩
theorem oe (h : Aside0 (d.R e W base ok v xs)) (hk : Kept W W1 S) (hne : ∀ k, ok k → ¬ S k) : Aside0 (d.R e W1 base ok v xs) := ⟨Kd.R_kept h.out hk hne⟩
theorem g6 (h : Aside0 (W.heap[g]? = some o)) (hk : Kept W W1 S) (hne : ¬ S g) : Aside0 (W1.heap[g]? = some o) := ⟨gV h.out hk hne⟩
theorem k9 {P : Program} {f : FuncId} {args : Array Value} {Q : Ending → World → Prop} {t : TypeId} {x y a b : Value} (hb : Aside0 (W.heap[g]? = some (.cells #[x, y] t (0, 0)))) (hB : Aside0 (Below w.heap.size w W)) (hg : w.heap.size ≤ g)
  (h : ∀ W', Aside0 (W'.heap[g]? = some (.cells #[a, b] t (0, 0))) → Kept W W' (fun k => k = g) → Aside0 (Below w.heap.size w W') → Calls P f args W' Q) : Calls P f args ((W.setCell ⟨g, 0, none⟩ a).setCell ⟨g, 1, none⟩ b) Q :=
 h _ ⟨aK (cs := #[a, y]) (aK (cs := #[x, y]) hb.out 0 a rfl) 1 b rfl⟩ (Kept.setCell (Kept.setCell (Kept.refl W (fun k => k = g)) (p := ⟨g, 0, none⟩) (.inl rfl) a) (p := ⟨g, 1, none⟩) (.inl rfl) b) ⟨bJ (bJ hB.out hg) hg⟩
theorem oh {P : Program} {f : FuncId} {args args' : Array Value} {Q : Ending → World → Prop} (h : args = args') (k : Calls P f args' W Q) : Calls P f args W Q := h ▸ k
end
def kO (g : Nat) (bs cb : Array Value) (st : List Int → List Int → Bool) (ls : List (List Int)) (w : World) : Prop :=
 ∀ (W : World) (x y : List Int) (A B : Option Addr) (c c' : Nat), x ∈ ls → y ∈ ls → Below w.heap.size w W → Kd.C (Kd.int .i64) W A x.length x → x.length ≤ c → Kd.C (Kd.int .i64) W B y.length y → y.length ≤ c' →
  Calls Tryz.prog g (bs ++ (#[.slice A x.length c, .slice B y.length c'] ++ cb)) W fun e w' => e = .returned (.bool (st x y)) ∧ Below W.heap.size W w'
def cm (st : List Int → List Int → Bool) (a : List Int) (i : Nat) : Nat → List (List Int) → List S63
 | _, [] => []
 | k, b :: t => (if st a b = true then [⟨(i : Int), (k : Int)⟩] else []) ++ cm st a i (k + 1) t
def aT (st : List Int → List Int → Bool) : Nat → List (List Int) → List S63
 | _, [] => []
 | i, a :: t => cm st a i (i + 1) t ++ aT st (i + 1) t
theorem pG (st : List Int → List Int → Bool) (a : List Int) (i : Nat) (t : List (List Int)) : ∀ k, (cm st a i k t).length ≤ t.length := by
 induction t with
 | nil => intro k; exact ar _
 | cons b t ih =>
  intro k
  have := ih (k + 1)
  simp only [cm, List.length_append, List.length_cons]
  split <;> simp only [List.length_nil, List.length_singleton] <;> omega
theorem nS (st : List Int → List Int → Bool) (t : List (List Int)) : ∀ i, (aT st i t).length ≤ t.length * t.length := by
 induction t with
 | nil => intro i; exact ar _
 | cons b t ih =>
  intro i
  have h1 := ih (i + 1)
  have h2 := pG st b i t (i + 1)
  simp only [aT, List.length_append, List.length_cons]
  have : (t.length + 1) * (t.length + 1) = t.length * t.length + t.length + t.length + 1 := by rw [Nat.add_mul, Nat.mul_add]; omega
  omega
theorem lS {w : World} {base : Nat} {ok : Nat → Prop} {g n cap m c : Nat} {A : Option Addr} {xs : List (List Int)} (h : Kd.S (Kd.slice 3 (Kd.int .i64)) 25 w base ok (.slice (some ⟨g, 0, none⟩) n cap) xs) (q : Nat) (hq : q < n) (hc : w.cell? ⟨g, q, none⟩ = some (.slice A m c)) :
  m = (xs.getD q []).length ∧ m ≤ c ∧ Kd.C (Kd.int .i64) w A (xs.getD q []).length (xs.getD q []) := by
 obtain ⟨cs, _, hM, hcc⟩ := Kd.S_get h ([] : List Int) (q : Int) (by omega) (by omega)
 obtain ⟨u, rfl, hR⟩ := hM
 have h2 := hcc 0 u rfl
 have e : (⟨g, 0, none⟩ : Addr).add ((q : Int).toNat * (Kd.slice 3 (Kd.int .i64)).sz + 0) = ⟨g, q, none⟩ := by
  show (⟨g, 0, none⟩ : Addr).add ((q : Int).toNat * 1 + 0) = _
  rw [Int.toNat_natCast, Nat.mul_one, Nat.add_zero, ca]
 rw [e, hc] at h2
 obtain rfl := ap h2
 rw [Int.toNat_natCast] at hR
 obtain ⟨h3, h4, h5⟩ := Kd.R_reads' hR
 exact ⟨h3, h4, h5⟩
theorem lR {w : World} {base : Nat} {ok : Nat → Prop} {g n cap : Nat} {xs : List (List Int)} (h : Kd.S (Kd.slice 3 (Kd.int .i64)) 25 w base ok (.slice (some ⟨g, 0, none⟩) n cap) xs) (q : Nat) (hq : q < n) :
  ∃ A c, w.cell? ⟨g, q, none⟩ = some (.slice A (xs.getD q []).length c) := by
 obtain ⟨cs, _, hM, hcc⟩ := Kd.S_get h ([] : List Int) (q : Int) (by omega) (by omega)
 obtain ⟨u, rfl, hR⟩ := hM
 have h2 := hcc 0 u rfl
 have e : (⟨g, 0, none⟩ : Addr).add ((q : Int).toNat * (Kd.slice 3 (Kd.int .i64)).sz + 0) = ⟨g, q, none⟩ := by
  show (⟨g, 0, none⟩ : Addr).add ((q : Int).toNat * 1 + 0) = _
  rw [Int.toNat_natCast, Nat.mul_one, Nat.add_zero, ca]
 rw [e] at h2
 rw [Int.toNat_natCast] at hR
 obtain ⟨A, c, rfl, _⟩ := Kd.R_reads hR
 exact ⟨A, c, h2⟩
set_option maxHeartbeats 4000000 in
theorem o9 (g : Nat) (bs cb : Array Value) (eg : ∀ (args : Array Value) (w : World), (callFunc g args).run Tryz.prog w = .ok (.enter g args) w) (st : List Int → List Int → Bool) (u : Value) (ls : List (List Int)) (w ws : World) (hB : Below w.heap.size w ws)
  (ho : Kd.S (Kd.slice 3 (Kd.int .i64)) 25 ws w.heap.size (fun _ => True) u ls) (hlen : ls.length ≤ 1024) (hst : kO g bs cb st ls w) :
  Calls Tryz.prog 71 #[u, .func (.func g) bs cb] ws fun e w' => ∃ v0_ v1_ : Value, e = .returned (.agg #[v0_, v1_]) ∧ Kd.S (Kd.slice 3 (Kd.int .i64)) 25 w' w.heap.size (fun _ => True) v0_ (bQ ls) ∧ Kd.R k63 63 w' w.heap.size (fun _ => True) v1_ (aT st 0 (bQ ls)) ∧ Below w.heap.size w w' := by
 have hu := Tryz.underlying67
 obtain ⟨Au, cu, eu⟩ := Kd.S_slice ho
 subst eu
 have HS := zM ho
 have HB := zM hB
 have HL := zM hlen
 have HT := zM hst
 clear ho hB hlen hst
 go_enter Tryz.func71, Tryz.ntmps71
 go_wp2_with (first
  | ((with_reducible refine au (N := 4) rfl ?_); refine ze 4 #[.slice none 0 0, .slice none 0 0] 67 ?_; intro g4 hg w1 hbox hb; have BK4 := zM hbox; replace HS := zM (Kd.S_below HS.out hb); have HG4 := zM (show w.heap.size ≤ g4 by rw [hg]; exact am HB.out); replace HB := zM (ag HB.out hb); clear hg hbox hb)
  | ((with_reducible refine au (N := 5) rfl ?_); refine ze 5 #[.slice none 0 0, .slice none 0 0] 67 ?_; intro g5 hg w2 hbox hb; have BK5 := zM hbox; replace HS := zM (Kd.S_below HS.out hb); have HG5 := zM (show w.heap.size ≤ g5 by rw [hg]; exact am HB.out); replace HB := zM (ag HB.out hb); have NB := zM (show g4 ≠ g5 by rw [hg]; exact Nat.ne_of_lt (aH BK4.out)); replace BK4 := zM (bw BK4.out hb); clear hg hbox hb; have hc0 := zy BK5 0; have hc1 := zy BK5 1; have hf0 := ae BK5.out 0; have hf1 := ae BK5.out 1)
  | (go_at_call 88; refine k9 BK5 HB HG5.out ?_; intro w3 BKn hk HBn; replace HS := zM (Kd.S_mono (ok' := fun _ => True) (Kd.S_kept (Kd.S_types HS.out BK5.out (by decide)) hk (fun k hk2 e => hk2.2 e)) (fun _ _ => trivial)); replace BK4 := zM (gV BK4.out hk NB.out); clear BK5 HB hk; have BK5 := BKn; have HB := HBn; clear BKn HBn; refine (sortLists.calls (fun k => (True ∧ k ≠ g5) ∧ k ≠ g4) _ ls w _ HB.out (Kd.S_types (Kd.S_types HS.out BK5.out (by decide)) BK4.out (by decide)) (by have := HL.out; omega)).mono ?_; rintro e w4 ⟨rfl, ho, hb, hk⟩; clear HS; have HS := zM (Kd.S_mono (ok' := fun _ => True) ho (fun _ _ => trivial)); replace BK4 := zM (gV BK4.out hk (fun h => h.2 rfl)); replace BK5 := zM (gV BK5.out hk (fun h => h.1.2 rfl)); replace HB := zM hb; clear ho hb hk; replace hc0 := zy BK5 0; replace hc1 := zy BK5 1; replace hf0 := ae BK5.out 0; replace hf1 := ae BK5.out 1))
 have HTm := zM (fun x => (jR ls x).1)
 have HTl := zM (lG ls)
 obtain ⟨T, hT⟩ : ∃ T, T = bQ ls := ⟨_, rfl⟩
 rw [← hT] at HS HTm HTl
 have HTT := zM hT
 clear hT
 have HR0 := zM (Kd.R_nil k63 63 w4 w.heap.size (fun _ => True))
 have HSz := zM (show (aT st 0 T).length ≤ 1048576 by
  have h1 := nS st T 0
  have h2 := HL.out
  have h3 := HTl.out
  have h4 : T.length * T.length ≤ 1024 * 1024 := Nat.mul_le_mul (by omega) (by omega)
  omega)
 generalize hRR : aT st 0 T = RR at HSz
 have HRR := zM hRR
 clear hRR
 go_loopg [18] (ls.length + 1) (fun kq v18 w' => ∃ (i : Nat) (Q : List S63) (v1 : Value), v18 = .int .i64 (i : Int) ∧ Aside0 (i ≤ ls.length) ∧ Aside0 (kq = ls.length - i + 1) ∧ Aside0 (Q ++ aT st i (T.drop i) = RR) ∧ Aside0 (Kd.S (Kd.slice 3 (Kd.int .i64)) 25 w' w.heap.size (fun _ => True) (.slice Au ls.length cu) T) ∧ Aside0 (Kd.R k63 63 w' w.heap.size (fun _ => True) v1 Q) ∧ Aside0 (w'.heap[g5]? = some (.cells #[.slice Au ls.length cu, v1] 67 (0, 0))) ∧ Aside0 (w'.heap[g4]? = some (.cells #[.slice none 0 0, .slice none 0 0] 67 (0, 0))) ∧ Aside0 (Below w.heap.size w w'))
 case atStart => exact ⟨0, [], .slice none 0 0, by first | rfl | (simp; done), ⟨Nat.zero_le _⟩, ⟨by omega⟩, ⟨by rw [List.drop_zero, List.nil_append]; exact HRR.out⟩, HS, HR0, BK5, BK4, HB⟩
 case round =>
  clear HS HR0 BK5 BK4 HB hc0 hc1 hf0 hf1
  obtain ⟨i, Q, v1, rfl, HI, HK1, HQ, HS, HR, BK5, BK4, HB⟩ := hrel
  have hc0 := zy BK5 0
  have hc1 := zy BK5 1
  have hf0 := ae BK5.out 0
  have hf1 := ae BK5.out 1
  by_cases c1 : i < ls.length
  · obtain ⟨gS, capS, eS, gbS, glS, cS, hcS⟩ := Kd.S_form HS.out (by have := HTl.out; omega)
    injection eS with eA eN ec
    subst eA; subst ec
    clear eN
    have BKS := zM hcS
    obtain ⟨Ao, co, eo⟩ := Kd.R_slice HR.out
    subst eo
    obtain ⟨A0, c0, hx0⟩ := lR HS.out i c1
    have HX0 := zM ((ah BKS.out i).symm.trans hx0)
    have HCU := zM (show ls.length ≤ cu from (Kd.S_reads' HS.out).2.1)
    have HTi := zM (show T.getD i [] ∈ ls by
      have := HTl.out
      rw [List.getD_eq_getElem?_getD, List.getElem?_eq_getElem (by omega), Option.getD_some]
      exact HTm.out _ (List.getElem_mem _))
    have HQ2 := zM (show Q ++ cm st (T.getD i []) i (i + 1) (T.drop (i + 1)) ++ aT st (i + 1) (T.drop (i + 1)) = RR by
      have := HTl.out
      have hi : i < T.length := by omega
      have h1 := HQ.out
      rw [List.drop_eq_getElem_cons hi] at h1
      rw [List.getD_eq_getElem?_getD, List.getElem?_eq_getElem hi, Option.getD_some, List.append_assoc]
      exact h1)
    generalize hTa : T.getD i [] = a at hx0 HX0 HTi HQ2
    have HTa := zM hTa
    clear hTa
    have HLN := zM HTl.out
    have q1 : (i : Int) < (ls.length : Int) := by omega
    have c1b : decide ((i : Int) < (ls.length : Int)) = true := af q1
    have c1c : decide (i < ls.length) = true := af c1
    have p1 : (0 : Int) ≤ (i : Int) := by omega
    have hw1 : (i : Int) + 1 ≤ 9223372036854775807 := by have := HL.out; omega
    obtain ⟨p, hp⟩ : ∃ p : Nat, p = i + 1 := ⟨_, rfl⟩
    have HPp := zM hp
    have hpi : (i : Int) + 1 = (p : Int) := by omega
    have hw2 : ((p : Int) ≤ (ls.length : Int)) = True := eq_true (by omega)
    have hw3 : (p ≤ ls.length) = True := eq_true (by omega)
    have hw4 : (p ≤ cu) = True := eq_true (by have := HCU.out; omega)
    have hw5 : (0 ≤ (p : Int)) = True := eq_true (by omega)
    obtain ⟨D, hD⟩ : ∃ D : Nat, ls.length - p = D := ⟨_, rfl⟩
    have HDD := zM hD
    have HPn := zM (show p ≤ ls.length by omega)
    have hpw : wrap64 (p : Int) = (p : Int) := cL (by omega) (by have := HL.out; omega)
    obtain ⟨B, hB⟩ : ∃ B : Option Addr, (if cu = p then some (⟨gS, 0, none⟩ : Addr) else some ⟨gS, p, none⟩) = B := ⟨_, rfl⟩
    clear hp hw1
    have HC1 := zM c1
    replace p1 := eq_true p1
    replace q1 := eq_true q1
    clear HQ hcS gbS glS c1
    go_wp2
    go_loopg [29] (D + 1) (fun kq v29 w' => ∃ (j : Nat) (Q2 : List S63) (v1 : Value), v29 = .int .i64 (j : Int) ∧ Aside0 (j ≤ D) ∧ Aside0 (kq = D - j + 1) ∧ Aside0 (Q2 ++ cm st a i (p + j) (T.drop (p + j)) ++ aT st (i + 1) (T.drop (i + 1)) = RR) ∧ Aside0 (Kd.S (Kd.slice 3 (Kd.int .i64)) 25 w' w.heap.size (fun _ => True) (.slice (some ⟨gS, 0, none⟩) ls.length cu) T) ∧ Aside0 (Kd.R k63 63 w' w.heap.size (fun _ => True) v1 Q2) ∧ Aside0 (w'.heap[g5]? = some (.cells #[.slice (some ⟨gS, 0, none⟩) ls.length cu, v1] 67 (0, 0))) ∧ Aside0 (w'.heap[g4]? = some (.cells #[.slice none 0 0, .slice none 0 0] 67 (0, 0))) ∧ Aside0 (w'.heap[gS]? = some (.cells cS 25 (0, 0))) ∧ Aside0 (Below w.heap.size w w'))
    case atStart => exact ⟨0, Q, _, by first | rfl | (simp; done), ⟨Nat.zero_le _⟩, ⟨by omega⟩, ⟨by rw [Nat.add_zero, HPp.out]; exact HQ2.out⟩, HS, HR, BK5, BK4, BKS, HB⟩
    case round =>
      clear HS HR BK5 BK4 BKS HB hc0 hc1 hf0 hf1 hx0 HQ2
      obtain ⟨j, Q2, v1, rfl, HJ, HK2, HQ2, HS, HR, BK5, BK4, BKS, HB⟩ := hrel
      obtain ⟨Ao2, co2, eo2⟩ := Kd.R_slice HR.out
      subst eo2
      have hc0 := zy BK5 0
      have hc1 := zy BK5 1
      have hf0 := ae BK5.out 0
      have hf1 := ae BK5.out 1
      by_cases c2 : j < D
      · have hBv : B = some ⟨gS, p, none⟩ := by
         have := HDD.out
         have := HCU.out
         rw [← hB, if_neg (by omega)]
        clear hB
        subst hBv
        obtain ⟨q, hq⟩ : ∃ q : Nat, p + j = q := ⟨_, rfl⟩
        have hqn : q < ls.length := by have := HDD.out; omega
        obtain ⟨A1, c1', hx1⟩ := lR HS.out q hqn
        have HX1 := zM hx1
        obtain ⟨la1, la2, la3⟩ := lS HS.out i HC1.out ((ah BKS.out i).trans HX0.out)
        obtain ⟨lb1, lb2, lb3⟩ := lS HS.out q hqn hx1
        rw [HTa.out] at la3
        have HTb := zM (show T.getD q [] ∈ ls by
         have := HTl.out
         rw [List.getD_eq_getElem?_getD, List.getElem?_eq_getElem (by omega), Option.getD_some]
         exact HTm.out _ (List.getElem_mem _))
        have HQ3 := zM (show Q2 ++ (if st a (T.getD q []) = true then [(⟨(i : Int), (q : Int)⟩ : S63)] else []) ++ cm st a i (p + (j + 1)) (T.drop (p + (j + 1))) ++ aT st (i + 1) (T.drop (i + 1)) = RR by
         have := HTl.out
         have hi : q < T.length := by omega
         have h1 := HQ2.out
         rw [hq, List.drop_eq_getElem_cons hi] at h1
         simp only [cm] at h1
         rw [List.getD_eq_getElem?_getD, List.getElem?_eq_getElem hi, Option.getD_some, show p + (j + 1) = q + 1 by omega, List.append_assoc Q2]
         exact h1)
        generalize T.getD q [] = b at hx1 HX1 lb1 lb2 lb3 HTb HQ3
        have HCa := zM la3
        have HCb := zM lb3
        have HLa := zM la2
        have HLb := zM lb2
        have HQl := zM (show Q2.length < 1048577 by
         have h1 := congrArg List.length HQ3.out
         simp only [List.length_append] at h1
         have := HSz.out
         omega)
        have q2 : (j : Int) < (D : Int) := by omega
        have c2b : decide ((j : Int) < (D : Int)) = true := af q2
        have c2c : decide (j < D) = true := af c2
        have p2 : (0 : Int) ≤ (j : Int) := by omega
        have hw6 : (j : Int) + 1 ≤ 9223372036854775807 := by have := HL.out; omega
        have hqi : (p : Int) + (j : Int) = (q : Int) := by omega
        have hqw : wrap64 (q : Int) = (q : Int) := cL (by omega) (by have := HL.out; omega)
        have HJ2 := zM c2
        have hf2 := ae BKS.out
        replace p2 := eq_true p2
        replace q2 := eq_true q2
        have NS := zM (show gS ≠ g5 by
         intro e
         have h := BKS.out
         rw [e, BK5.out] at h
         injection h with h
         injection h with _ h
         exact absurd h (by decide))
        clear la1 la2 la3 lb1 lb2 lb3 c2 hqn HQ2 hf2
        cases hst : st a b with
        | true =>
         rw [hst, if_pos rfl] at HQ3
         have HSt := zM hst
         clear hst
         obtain ⟨Q5, hQ5⟩ : ∃ Q5, Q5 = Q2 ++ [(⟨(i : Int), (q : Int)⟩ : S63)] := ⟨_, rfl⟩
         rw [← hQ5] at HQ3
         have HQ5 := zM hQ5
         clear hQ5
         go_wp2_with (first
          | (go_at_fn g; refine (HT.out _ a b A0 A1 c0 c1' HTi.out HTb.out HB.out HCa.out HLa.out HCb.out HLb.out).mono ?_; rw [HSt.out]; rintro e w6 ⟨rfl, hb⟩; replace HS := zM (Kd.S_below HS.out hb); replace HR := zM (Kd.R_below HR.out hb); replace BK5 := zM (bw BK5.out hb); replace BK4 := zM (bw BK4.out hb); replace BKS := zM (bw BKS.out hb); replace HB := zM (ag HB.out hb); clear hb; replace hc0 := zy BK5 0; replace hc1 := zy BK5 1; replace hf0 := ae BK5.out 0; replace hf1 := ae BK5.out 1)
          | ((with_reducible refine cJ (b := .append) (xs := #[.tmp 39, .tmp 46]) rfl ?_); at_builtin; refine Kd.R_append k63 (w0 := w) w.heap.size rfl (.tmp 39) (.tmp 46) 22 63 (.agg #[(.int .i64 0), (.int .i64 0)]) 16 rfl Tryz.underlying22 m0 rfl (by decide) (by omega) (.slice Ao2 Q2.length co2) Q2 (⟨(i : Int), (q : Int)⟩ : S63) [.int .i64 (i : Int), .int .i64 (q : Int)] (fun _ => True) (fun _ => False) rfl rfl ?aP (fun _ hk => hk.elim) ?aF ?aO ?aB ?aS ?aL ?_; (case aP => exact kj _ _ _ (⟨(i : Int), (q : Int)⟩ : S63)); (case aB => exact zB); (case aF => exact (fun _ _ => trivial)); (case aO => exact (zR HR.out)); (case aS => exact (am zB)); (case aL => have := HQl.out; omega); intro v9 w9 ho hb hg hat; rw [← HQ5.out] at ho; obtain ⟨A9, c9, e9⟩ := Kd.R_slice ho; subst e9; replace HS := zM (Kd.S_over' HS.out (Kd.R_typed HR.out) (by decide) hg); replace BK5 := zM (cU (zK BK5.out) hg (Kd.R_ne HR.out BK5.out (by decide))); replace BK4 := zM (cU (zK BK4.out) hg (Kd.R_ne HR.out BK4.out (by decide))); replace BKS := zM (cU (zK BKS.out) hg (Kd.R_ne HR.out BKS.out (by decide))); replace HB := zM hb; replace HR := zM ho; clear ho hb hg hat; replace hc0 := zy BK5 0; replace hc1 := zy BK5 1; replace hf0 := ae BK5.out 0; replace hf1 := ae BK5.out 1))
         go_roundg (D - j)
         case measure => have := HK2.out; have := HJ2.out; omega
         case rel => exact ⟨j + 1, Q5, _, by first | rfl | (simp; done) | go_num, ⟨by have := HJ2.out; omega⟩, ⟨by have := HJ2.out; omega⟩, HQ3, ⟨Kd.S_mono (Kd.S_far (p := ⟨g5, 1, none⟩) (Kd.S_types HS.out BK5.out (by decide)) (fun _ hk => hk.2) _) (fun _ _ => trivial)⟩, ⟨Kd.R_mono (Kd.R_far (p := ⟨g5, 1, none⟩) (Kd.R_types HR.out BK5.out (by decide)) (fun _ hk => hk.2) _) (fun _ _ => trivial)⟩, ⟨aK (cs := #[.slice (some ⟨gS, 0, none⟩) ls.length cu, .slice Ao2 Q2.length co2]) BK5.out 1 _ rfl⟩, ⟨bG BK4.out NB.out _⟩, ⟨bG BKS.out NS.out _⟩, ⟨bJ HB.out HG5.out⟩⟩
        | false =>
         rw [hst, if_neg (by decide), List.append_nil] at HQ3
         have HSt := zM hst
         clear hst
         go_wp2_with (go_at_fn g; refine (HT.out _ a b A0 A1 c0 c1' HTi.out HTb.out HB.out HCa.out HLa.out HCb.out HLb.out).mono ?_; rw [HSt.out]; rintro e w6 ⟨rfl, hb⟩; replace HS := zM (Kd.S_below HS.out hb); replace HR := zM (Kd.R_below HR.out hb); replace BK5 := zM (bw BK5.out hb); replace BK4 := zM (bw BK4.out hb); replace BKS := zM (bw BKS.out hb); replace HB := zM (ag HB.out hb); clear hb; replace hc0 := zy BK5 0; replace hc1 := zy BK5 1; replace hf0 := ae BK5.out 0; replace hf1 := ae BK5.out 1)
         go_roundg (D - j)
         case measure => have := HK2.out; have := HJ2.out; omega
         case rel => exact ⟨j + 1, Q2, _, by first | rfl | (simp; done) | go_num, ⟨by have := HJ2.out; omega⟩, ⟨by have := HJ2.out; omega⟩, HQ3, HS, HR, BK5, BK4, BKS, HB⟩
      · have hj : j = D := by have := HJ.out; omega
        have c2b : decide ((j : Int) < (D : Int)) = false := ao (by omega)
        have c2c : decide (j < D) = false := ao c2
        have HQ4 := zM (show Q2 ++ aT st (i + 1) (T.drop (i + 1)) = RR by
         have h1 := HQ2.out
         have h2 := HTl.out
         have h3 := HDD.out
         have h4 := HPn.out
         rw [List.drop_eq_nil_of_le (show T.length ≤ p + j by omega)] at h1
         simpa [cm] using h1)
        clear c2 hj HQ2
        have hwi : (i : Int) + 1 ≤ 9223372036854775807 := by have := HC1.out; have := HL.out; omega
        go_wp2
        go_roundg (ls.length - i)
        case measure => have := HK1.out; have := HC1.out; omega
        case rel => exact ⟨i + 1, Q2, _, by first | rfl | exact congrArg (fun z : Nat => Value.int .i64 (z : Int)) HPp.out | (simp; done) | go_num, ⟨by have := HC1.out; omega⟩, ⟨by have := HC1.out; omega⟩, HQ4, HS, HR, BK5, BK4, HB⟩
  · have hi : i = ls.length := by have := HI.out; omega
    have c1b : decide ((i : Int) < (ls.length : Int)) = false := ao (by omega)
    have c1c : decide (i < ls.length) = false := ao c1
    have HF := zM (show Q = RR by
      have h1 := HQ.out
      have h2 := HTl.out
      rw [List.drop_eq_nil_of_le (by omega)] at h1
      simpa [aT] using h1)
    have hd0 := zy BK4 0
    have hd1 := zy BK4 1
    have he0 := ae BK4.out 0
    have he1 := ae BK4.out 1
    obtain ⟨Ao, co, eo⟩ := Kd.R_slice HR.out
    subst eo
    clear c1 hi HQ
    go_wp2
    (try simp only [Exit.inBlock, Exit.then])
    refine bodyPost_ret (results_cell_row rfl _ _ g4 67 #[.slice Au ls.length cu, .slice Ao Q.length co] (0, 0) _ rfl (aK (cs := #[.slice Au ls.length cu, .slice none 0 0]) (aK (cs := #[.slice none 0 0, .slice none 0 0]) BK4.out 0 _ rfl) 1 _ rfl) hu rfl (by kernel_rfl)) rfl ?_
    refine ⟨_, _, rfl, ?_, ?_, bJ (bJ HB.out HG4.out) HG4.out⟩
    · rw [← HTT.out]
      exact Kd.S_mono (Kd.S_far (p := ⟨g4, 1, none⟩) (Kd.S_far (p := ⟨g4, 0, none⟩) (Kd.S_types HS.out BK4.out (by decide)) (fun _ hk => hk.2) _) (fun _ hk => hk.2) _) (fun _ _ => trivial)
    · rw [← HTT.out, HRR.out, ← HF.out]
      exact Kd.R_mono (Kd.R_far (p := ⟨g4, 1, none⟩) (Kd.R_far (p := ⟨g4, 0, none⟩) (Kd.R_types HR.out BK4.out (by decide)) (fun _ hk => hk.2) _) (fun _ hk => hk.2) _) (fun _ _ => trivial)
theorem pp : ∀ b : Fin 256, d4 b = some (((aI (aA b) 8 0).length : Nat) : Int) := by decide +kernel
theorem jV {b : Int} (h0 : 0 ≤ b) (h1 : b < 256) : d4 b = some (((aI (aA b) 8 0).length : Nat) : Int) := by
 obtain ⟨i, rfl⟩ := d9 (n := 256) h0 h1
 exact pp i
def fS (e : List S63) (lo hi b : Int) : Bool := (decide (lo ≤ ((aI (aA b) 8 0).length : Int)) && decide (((aI (aA b) 8 0).length : Int) ≤ hi)) && !(e.any (eM b))
def iF (e : List S63) : Bool := e.all fun s => decide (0 ≤ s.f0) && decide (0 ≤ s.f1)
theorem rx (a : Int) (e : List S63) (b : Int) (h : iF e = true) : fo a e b = some (!(e.any (eM b))) := by
 unfold fo
 rw [if_pos]
 rw [List.all_eq_true]
 intro s hs
 have := List.all_eq_true.1 h s hs
 rw [Bool.and_eq_true, decide_eq_true_eq, decide_eq_true_eq] at this
 rw [ft this.1, ft this.2]
 rfl
theorem ue (n lo hi : Int) : d3 n lo hi = some (decide (lo ≤ n) && decide (n ≤ hi)) := by
 unfold d3
 by_cases h : n ≥ lo
 · rw [if_pos h, af (show lo ≤ n from h), Bool.true_and]
 · rw [if_neg h, ao (show ¬ lo ≤ n from h), Bool.false_and]
set_option maxHeartbeats 1000000 in
theorem sF (gl gh gg : Nat) (lo hi : Int) (a0 : Int) (A1 : Option Addr) (c1 : Nat) (l1 : List S63) (b : Int) (h0 : 0 ≤ b) (h1 : b < 256) (hok : iF l1 = true) (W : World) (hl : W.cell? ⟨gl, 0, none⟩ = some (.int .i64 lo)) (hh : W.cell? ⟨gh, 0, none⟩ = some (.int .i64 hi))
  (hg0 : W.cell? ⟨gg, 0, none⟩ = some (.int .i64 a0)) (hg1 : W.cell? ⟨gg, 1, none⟩ = some (.slice A1 l1.length c1)) (hr : Kd.C k63 W A1 l1.length l1) (hc : l1.length ≤ c1) :
  Calls Tryz.prog 107 (#[.int .u64 b] ++ #[.pointer (some ⟨gl, 0, none⟩), .pointer (some ⟨gh, 0, none⟩), .pointer (some ⟨gg, 0, none⟩)]) W fun e w' => e = .returned (.bool (fS l1 lo hi b)) ∧ Below W.heap.size W w' := by
 have hu := Tryz.underlying29
 have HS := zM (jV h0 h1)
 obtain ⟨n, hn⟩ : ∃ n : Int, n = ((aI (aA b) 8 0).length : Int) := ⟨_, rfl⟩
 rw [← hn] at HS
 obtain ⟨q, hq⟩ : ∃ q, q = (decide (lo ≤ n) && decide (n ≤ hi)) := ⟨_, rfl⟩
 obtain ⟨f, hf⟩ : ∃ f, f = !(l1.any (eM b)) := ⟨_, rfl⟩
 have HQ := zM (show d3 n lo hi = some q by rw [hq]; exact ue n lo hi)
 have HF := zM (show fo a0 l1 b = some f by rw [hf]; exact rx a0 l1 b hok)
 have HE := zM (show fS l1 lo hi b = (q && f) by rw [hq, hf, hn]; rfl)
 rw [HE.out]
 have HR := zM hr
 have HC := zM hc
 clear hr hc hn hq hf HE h0 h1 hok
 show Calls Tryz.prog 107 #[.int .u64 b, .pointer (some ⟨gl, 0, none⟩), .pointer (some ⟨gh, 0, none⟩), .pointer (some ⟨gg, 0, none⟩)] W _
 go_enter Tryz.func107, Tryz.ntmps107
 go_upto_region 1 with (fail)
 (try simp only [Act.put, List.setIfInBounds_toArray, List.set_cons_zero, List.set_cons_succ])
 refine zs (n := 11) (fun w' => w'.cell? ⟨gl, 0, none⟩ = some (.int .i64 lo) ∧ w'.cell? ⟨gh, 0, none⟩ = some (.int .i64 hi) ∧ w'.cell? ⟨gg, 0, none⟩ = some (.int .i64 a0) ∧ w'.cell? ⟨gg, 1, none⟩ = some (.slice A1 l1.length c1)) ⟨hl, hh, hg0, hg1⟩ (fun hHeld => ?_)
 have HB := zM (gW (Below.refl W.heap.size W))
 generalize W.drew = W1 at HB hHeld ⊢
 refine zq 0 6 ?_
 refine zl 2 8 hHeld ?_ (hy := by rintro w' ⟨s0, s1, s2, s3⟩; go_simp; with_reducible rfl)
 refine zl 3 9 hHeld ?_ (hy := by rintro w' ⟨s0, s1, s2, s3⟩; go_simp; with_reducible rfl)
 refine zh 1 7 Tryz.func40 #[.int .u64 b] (fun K hK => ?_)
 refine (d5 b n _ HS.out).mono ?_
 rintro e w1 ⟨rfl, hd⟩
 have hb : Below _ _ _ := (by first | exact Drawn0.below hd | exact hd)
 refine ⟨_, rfl, ?_⟩
 refine hK.out _ _ ⟨bM hb hHeld.1, bM hb hHeld.2.1, bM hb hHeld.2.2.1, bM hb hHeld.2.2.2⟩ (fun hHeld => ?_)
 replace HB := zM (ag HB.out hb)
 clear hK K hd hb
 refine zn 7 ?_
 refine zh 4 10 Tryz.func66 #[.int .i64 n, .int .i64 lo, .int .i64 hi] (fun K hK => ?_)
 refine (eG n lo hi q _ HQ.out).mono ?_
 rintro e w2 ⟨rfl, hd⟩
 have hb : Below _ _ _ := (by first | exact Drawn0.below hd | exact hd)
 refine ⟨_, rfl, ?_⟩
 refine hK.out _ _ ⟨bM hb hHeld.1, bM hb hHeld.2.1, bM hb hHeld.2.2.1, bM hb hHeld.2.2.2⟩ (fun hHeld => ?_)
 replace HB := zM (ag HB.out hb)
 clear hK K hd hb
 refine zn 10 ?_
 refine zq 5 11 ?_
 cases q with
 | true =>
  refine zl 6 12 hHeld ?_ (hy := by rintro w' ⟨s0, s1, s2, s3⟩; go_simp; with_reducible rfl)
  refine zq 7 13 ?_
  refine zh 8 14 Tryz.func69 #[.agg #[.int .i64 a0, .slice A1 l1.length c1], .int .u64 b] (fun K hK => ?_)
  refine (ni a0 A1 c1 l1 b f _ (Kd.C_below HR.out HB.out) HC.out HF.out).mono ?_
  rintro e w3 ⟨rfl, hb⟩
  refine ⟨_, rfl, ?_⟩
  refine hK.out _ _ ⟨bM hb hHeld.1, bM hb hHeld.2.1, bM hb hHeld.2.2.1, bM hb hHeld.2.2.2⟩ (fun hHeld => ?_)
  replace HB := zM (ag HB.out hb)
  clear hK K hb
  refine zn 14 ?_
  refine zq 9 15 ?_
  refine zq 10 5 ?_
  refine zx ?_
  (try go_wp2)
  go_ret
  exact ⟨by first | rfl | (simp; done), HB.out⟩
 | false =>
  refine zv 6 12 ?_
  refine zv 7 13 ?_
  refine zv 8 14 ?_
  refine zq 9 15 ?_
  refine zq 10 5 ?_
  refine zx ?_
  (try go_wp2)
  go_ret
  exact ⟨by first | rfl | (simp; done), HB.out⟩
def iB (a0_0 : Int) (l0_1 : List S63) (a1 a2 : Int) : Option (List (List Int)) :=
 if (0 ≤ a0_0 ∧ a0_0 ≤ 8) ∧ iF l0_1 = true then some (bQ (cA (fS l0_1 a1 a2) (2 ^ a0_0.toNat))) else none
set_option maxHeartbeats 2000000 in
theorem se (a0_0 : Int) (A0_1 : Option Addr) (c0_1 : Nat) (l0_1 : List (S63)) (a1 : Int) (a2 : Int) (r : List (List Int)) (w : World) (hr0_1 : Kd.C k63 w A0_1 l0_1.length l0_1) (hc0_1 : l0_1.length ≤ c0_1) (h : iB a0_0 l0_1 a1 a2 = some r) :
  Calls Tryz.prog 87 #[.agg #[.int .i64 a0_0, .slice A0_1 l0_1.length c0_1], .int .i64 a1, .int .i64 a2] w fun e w' => ∃ v0_ : Value, e = .returned (v0_) ∧ Kd.S (Kd.slice 3 (Kd.int .i64)) 25 w' w.heap.size (fun _ => True) v0_ r ∧ Below w.heap.size w w' := by
 unfold iB at h
 by_cases c : (0 ≤ a0_0 ∧ a0_0 ≤ 8) ∧ iF l0_1 = true
 case neg => rw [if_neg c] at h; cases h
 rw [if_pos c] at h
 have HE := zM (ap h)
 have HR := zM hr0_1
 have HC := zM hc0_1
 have HO := zM c
 have hpow : 2 ^ a0_0.toNat ≤ 256 := Nat.pow_le_pow_right (n := 2) (by decide) (show a0_0.toNat ≤ 8 by have := c.1; omega)
 have HPW := zM hpow
 clear h hr0_1 hc0_1 c hpow
 have HP := fun (W : World) (gg gl gh : Nat) (hg0 : W.cell? ⟨gg, 0, none⟩ = some (.int .i64 a0_0)) (hg1 : W.cell? ⟨gg, 1, none⟩ = some (.slice A0_1 l0_1.length c0_1)) (hl : W.cell? ⟨gl, 0, none⟩ = some (.int .i64 a1)) (hh : W.cell? ⟨gh, 0, none⟩ = some (.int .i64 a2)) (hr : Kd.C k63 W A0_1 l0_1.length l0_1) =>
  zM (show PredN 107 #[.pointer (some ⟨gl, 0, none⟩), .pointer (some ⟨gh, 0, none⟩), .pointer (some ⟨gg, 0, none⟩)] (fS l0_1 a1 a2) (2 ^ a0_0.toNat) W from fun W' b h0 h1 hb =>
   sF gl gh gg a1 a2 a0_0 A0_1 c0_1 l0_1 b h0 (by have := HPW.out; omega) HO.out.2 W' (bM hb hl) (bM hb hh) (bM hb hg0) (bM hb hg1) (Kd.C_below hr hb) HC.out)
 have HB1 := zM (bC (bC (bC (Below.refl w.heap.size w) (.cells #[.int .i64 a0_0, .slice A0_1 l0_1.length c0_1] 29)) (.cells #[.int .i64 a1] 3)) (.cells #[.int .i64 a2] 3))
 go_enter Tryz.func87, Tryz.ntmps87
 go_wp2_with (go_at_call 106; refine (pq _ _ (enters_of Tryz.func107 (by kernel_rfl) rfl) _ a0_0 HO.out.1.1 HO.out.1.2 A0_1 c0_1 l0_1 _ (Kd.C_below HR.out HB1.out) HC.out (HP _ _ _ _ (by go_simp) (by go_simp) (by go_simp) (by go_simp) (Kd.C_below HR.out HB1.out)).out).mono ?_; rintro e w3 ⟨v3, rfl, ho, hb⟩; have HS := zM (Kd.S_lower ho (am HB1.out)); have HB := zM (ag HB1.out hb); clear ho hb)
 go_ret
 exact ⟨_, rfl, by rw [← HE.out]; exact HS.out, HB.out⟩
attribute [local go_sem] bl bh bi bd bj bf bk bg
set_option linter.unusedVariables false
set_option linter.unusedSimpArgs false
def ix (k : Nat) (l0 : List Int) (l1 : List Int) : Option (Int × Int) := (bV k l0).bind fun t219 => ((bV k l1).bind fun t220 => (some (Go.bits .andNot .u64 t219 t220, Go.bits .andNot .u64 t220 t219)))
theorem kp (k : Nat) (A0 : Option Addr) (c0 : Nat) (l0 : List Int) (A1 : Option Addr) (c1 : Nat) (l1 : List Int) (r1 : Int) (r2 : Int) (w : World) (hr0 : Kd.C (Kd.int .i64) w A0 l0.length l0) (hc0 : l0.length ≤ c0) (hr1 : Kd.C (Kd.int .i64) w A1 l1.length l1) (hc1 : l1.length ≤ c1) (h : ix k l0 l1 = some (r1, r2)) :
 Calls Tryz.prog 89 #[.slice A0 l0.length c0, .slice A1 l1.length c1] w fun e w' => e = .returned (.tuple #[.int .u64 r1, .int .u64 r2]) ∧ Drawn0 w w' := by
 have HR0 := Aside0.mk hr0
 have HC0 := Aside0.mk hc0
 clear hr0 hc0
 have HR1 := Aside0.mk hr1
 have HC1 := Aside0.mk hc1
 clear hr1 hc1
 have H := h
 unfold ix at H
 clear h
 replace H := av H
 obtain ⟨t219, A30, H⟩ := H
 try dsimp only at H
 have A3 := Aside0.mk A30
 clear A30
 replace H := av H
 obtain ⟨t220, A40, H⟩ := H
 try dsimp only at H
 have A4 := Aside0.mk A40
 clear A40
 simp only [Option.some.injEq, Prod.mk.injEq] at H
 obtain ⟨rfl, rfl⟩ := H
 go_enter Tryz.func89, Tryz.ntmps89
 go_wp2_with (first | ((with_reducible refine ax (f := 32) rfl ?_); refine zc 9 Tryz.func32 #[.slice A0 l0.length c0] ?_; (with_reducible refine (cI k _ _ l0 t219 _ ?side1 ?side2 A3.out).mono ?_); (case side1 => exact zC HR0.out); (case side2 => exact HC0.out); rintro e w' ⟨rfl, ⟨nd, rfl⟩⟩; refine ⟨_, rfl, ?_⟩) | ((with_reducible refine ax (f := 32) rfl ?_); refine zc 11 Tryz.func32 #[.slice A1 l1.length c1] ?_; (with_reducible refine (cI k _ _ l1 t220 _ ?side1 ?side2 A4.out).mono ?_); (case side1 => exact zC HR1.out); (case side2 => exact HC1.out); rintro e w' ⟨rfl, ⟨nd, rfl⟩⟩; refine ⟨_, rfl, ?_⟩))
 go_ret2
 exact ⟨by first | rfl | (simp; done) | (simp [*]; done), by repeat (first | exact Drawn0.refl _ | apply Drawn0.step)⟩
theorem nQ {P : Program} {md : Region.Mode} {ops : Array Oper} {Q : Exit → Act → World → Prop} {S1 S2 : World → Prop} {fuel : Nat} {l : Array Bool} {a : Act} {w : World} (hsub : ∀ w, S2 w → S1 w) (h2 : S2 w) (H : aC P md ops Q S2 [] fuel l a w) : aC P md ops Q S1 [] fuel l a w := by
 induction fuel generalizing l a w with
 | zero => exact H
 | succ fuel ih => exact ⟨H.1, fun i hi => wpOp_mono (fun a' w' h => ⟨fun hd _ => hsub _ (h.1 hd h2), ih (h.1 (by simp) h2) h.2⟩) (H.2 i hi)⟩
def fm (k : Nat) (a0_0 : Int) (l0_1 : List (S63)) (l1 : List Int) (l2 : List Int) : Option (Bool) := (ix k l1 l2).bind fun bt222 => ((d4 bt222.1).bind fun t224 => (if t224 = 1 then ((d4 bt222.2).bind fun t225 => (if t225 = 1 then ((eH k bt222.1).bind fun t226 => (if 0 < (t226.length : Int) then ((eH k bt222.2).bind fun t230 => (if 0 < (t230.length : Int) then ((gR k a0_0 l0_1 (rd t226 0) (rd t230 0)).bind fun t234 => (some t234)) else (none))) else (none))) else (some false))) else (some false)))
def impl_Graph_isSlide.T2 : Bool × List (List Nat × List Nat) := (true, [([], []), ([0], [0]), ([1], [1]), ([2, 1], [2]), ([3], [3]), ([4, 3, 3], [3, 4]), ([5, 3], [3, 5]), ([3, 6], [3, 6]), ([7, 5], [7]), ([8], [8]), ([8], [8]), ([10, 8, 8], [8, 10]), ([11, 8], [8, 11]), ([12, 8], [8, 12]), ([8], [8]), ([14, 11, 8], [8, 14]), ([15, 8], [8, 15]), ([16, 8], [8, 16]), ([9, 13, 17, 15, 8], [8, 9, 13, 17]), ([8, 18], [8, 18]), ([19, 18, 0, 1, 2, 3, 4, 5, 6, 7, 8, 9, 10, 11, 12, 13, 14, 15, 16, 17, 18, 19], [19])])
def rZ : List Nat := [0, 1, 3, 7, 15, 31, 63, 127, 255, 511, 511, 1535, 3583, 7679, 511, 19967, 52735, 118271, 262143, 524287, 1048575]
theorem ks : aQ .any (ct Tryz.f72 2) = impl_Graph_isSlide.T2 := by kernel_rfl
theorem kt : bK impl_Graph_isSlide.T2.2 rZ = true := by kernel_rfl
theorem rY (k : Nat) (a0_0 : Int) (A0_1 : Option Addr) (c0_1 : Nat) (l0_1 : List (S63)) (A1 : Option Addr) (c1 : Nat) (l1 : List Int) (A2 : Option Addr) (c2 : Nat) (l2 : List Int) (r : Bool) (w : World) (hr0_1 : Kd.C k63 w A0_1 l0_1.length l0_1) (hc0_1 : l0_1.length ≤ c0_1) (hr1 : Kd.C (Kd.int .i64) w A1 l1.length l1) (hc1 : l1.length ≤ c1) (hr2 : Kd.C (Kd.int .i64) w A2 l2.length l2) (hc2 : l2.length ≤ c2) (h : fm k a0_0 l0_1 l1 l2 = some r) :
 Calls Tryz.prog 72 #[.agg #[.int .i64 a0_0, .slice A0_1 l0_1.length c0_1], .slice A1 l1.length c1, .slice A2 l2.length c2] w fun e w' => e = .returned (.bool r) ∧ Below w.heap.size w w' := by
 have hu29 := Tryz.underlying29
 have HR0_1 := Aside0.mk hr0_1
 have HC0_1 := Aside0.mk hc0_1
 clear hr0_1 hc0_1
 have HR1 := Aside0.mk hr1
 have HC1 := Aside0.mk hc1
 clear hr1 hc1
 have HR2 := Aside0.mk hr2
 have HC2 := Aside0.mk hc2
 clear hr2 hc2
 have HB := zM (Below.refl w.heap.size w)
 have H := h
 unfold fm at H
 clear h
 replace H := av H
 obtain ⟨⟨t222, t223⟩, A40, H⟩ := H
 try dsimp only at H
 have A4 := Aside0.mk A40
 clear A40
 replace H := av H
 obtain ⟨t224, A50, H⟩ := H
 have A5 := Aside0.mk A50
 clear A50
 by_cases c6 : t224 = 1
 · rw [if_pos c6] at H
   have c6b0 : (t224 == 1) = true := beq_iff_eq.mpr c6
   have c6b1 : (t224 != 1) = false := bne_eq_false_iff_eq.mpr c6
   clear c6
   replace H := av H
   obtain ⟨t225, A70, H⟩ := H
   have A7 := Aside0.mk A70
   clear A70
   by_cases c8 : t225 = 1
   · rw [if_pos c8] at H
     have c8b0 : (t225 == 1) = true := beq_iff_eq.mpr c8
     have c8b1 : (t225 != 1) = false := bne_eq_false_iff_eq.mpr c8
     clear c8
     replace H := av H
     obtain ⟨t226, A90, H⟩ := H
     have A9 := Aside0.mk A90
     clear A90
     by_cases c10 : 0 < (t226.length : Int)
     case neg => rw [if_neg c10] at H; simp at H
     rw [if_pos c10] at H
     have c10b0 := af c10
     have c10b1 : decide (0 < t226.length) = true := af (by omega)
     clear c10
     replace H := av H
     obtain ⟨t230, A110, H⟩ := H
     have A11 := Aside0.mk A110
     clear A110
     by_cases c12 : 0 < (t230.length : Int)
     case neg => rw [if_neg c12] at H; simp at H
     rw [if_pos c12] at H
     have c12b0 := af c12
     have c12b1 : decide (0 < t230.length) = true := af (by omega)
     clear c12
     replace H := av H
     obtain ⟨t234, A130, H⟩ := H
     have A13 := Aside0.mk A130
     clear A130
     obtain rfl := ap H
     go_enter Tryz.func72, Tryz.ntmps72
     try go_wp2_with (first | ((with_reducible refine au (N := 3) rfl ?_); refine zb (w := w) 3 #[.int .i64 a0_0, .slice A0_1 l0_1.length c0_1] 29 zB ?_; clear HB; intro gb221 w14 HB BK221 GW221; have GE221 := GW221) | ((with_reducible refine ax (f := 89) rfl ?_); refine zc 12 Tryz.func89 #[.slice A1 l1.length c1, .slice A2 l2.length c2] ?_; (with_reducible refine (kp k _ _ l1 _ _ l2 t222 t223 _ ?side1 ?side2 ?side3 ?side4 A4.out).mono ?_); (case side1 => exact zC (Kd.C_below HR1.out HB.out)); (case side2 => exact HC1.out); (case side3 => exact zC (Kd.C_below HR2.out HB.out)); (case side4 => exact HC2.out); rintro e w' ⟨rfl, ⟨nd, rfl⟩⟩; refine ⟨_, rfl, ?_⟩))
     (try (rw [iG w14]; generalize hq_ : World.drewN w14 _ = w14; have n0_ : Aside0 (w14.heap[gb221]? = some (.cells #[.int .i64 a0_0, .slice A0_1 l0_1.length c0_1] 29 (0, 0))) := ⟨by rw [← hq_]; exact (zK BK221.out)⟩; have n1_ : Aside0 (Below w.heap.size w w14) := ⟨by rw [← hq_]; exact zB⟩; clear BK221 HB hq_; have BK221 := n0_; have HB := n1_; clear n0_ n1_))
     replace BK221 := zM (aq BK221.out)
     replace HB := zM (aD HB.out)
     refine zs (n := 21) (fun w' => w'.cell? ⟨gb221, 0, none⟩ = some (.int .i64 a0_0) ∧ w'.cell? ⟨gb221, 1, none⟩ = some (.slice A0_1 l0_1.length c0_1)) ⟨(ah BK221.out 0).trans rfl, (ah BK221.out 1).trans rfl⟩ (fun hHeld => ?_); refine aX ks kt (fun HT_ HW_ => ?_)
     generalize w14.drew = w15 at BK221 HB hHeld ⊢
     refine zp HT_ 0 15 ?_
     refine zg HT_ 1 16 Tryz.func40 #[.int .u64 t222] (fun K hK => ?_)
     with_reducible refine (d5 t222 t224 _ A5.out).mono ?_
     rintro e w16 ⟨rfl, hb⟩
     refine ⟨_, rfl, ?_⟩
     replace BK221 := zJ BK221 hb
     replace HB := zM (ag zB hb)
     (try clear hb)
     refine hK.out _ _ ⟨(ah BK221.out 0).trans rfl, (ah BK221.out 1).trans rfl⟩ (fun hHeld => ?_)
     clear hK K
     refine zn 16 ?_
     refine zp HT_ 2 17 ?_
     refine zp HT_ 3 18 ?_
     refine zp HT_ 4 19 ?_
     refine zg HT_ 5 20 Tryz.func40 #[.int .u64 t223] (fun K hK => ?_)
     with_reducible refine (d5 t223 t225 _ A7.out).mono ?_
     rintro e w17 ⟨rfl, hb⟩
     refine ⟨_, rfl, ?_⟩
     replace BK221 := zJ BK221 hb
     replace HB := zM (ag zB hb)
     (try clear hb)
     refine hK.out _ _ ⟨(ah BK221.out 0).trans rfl, (ah BK221.out 1).trans rfl⟩ (fun hHeld => ?_)
     clear hK K
     refine zn 20 ?_
     refine zp HT_ 6 21 ?_
     refine zp HT_ 7 22 ?_
     refine zp HT_ 8 23 ?_
     refine zp HT_ 10 25 ?_
     refine zp HT_ 14 29 ?_
     refine zt HT_ HW_ 9 24 hHeld ?_ (hy := by rintro w' ⟨s0, s1⟩; go_simp; with_reducible rfl)
     refine zg HT_ 11 26 Tryz.func33 #[.int .u64 t222] (fun K hK => ?_)
     with_reducible refine (iy k t222 t226 _ A9.out).mono ?_
     rintro e w18 ⟨v227, rfl, ho0, hb⟩
     refine ⟨_, rfl, ?_⟩
     have HO228 := zM (Kd.R_lower ho0 (am zB))
     replace BK221 := zJ BK221 hb
     replace HB := zM (ag zB hb)
     (try clear hb)
     (try clear ho0)
     obtain ⟨Ao19, co19, eo19⟩ := Kd.R_slice HO228.out
     (first | subst eo19 | (injection eo19 with f1_ f2_ f3_; have f4_ := f1_.symm; have f5_ := f3_.symm; clear f1_ f2_ f3_; subst f4_; subst f5_))
     have p229 : 0 ≤ (0 : Int) := (by omega)
     have q229 : 0 < (t226.length : Int) := ac zA
     obtain ⟨ad229, e229, hx229_0⟩ := Kd.at_int (Kd.R_reads' HO228.out).2.2 0 p229 q229
     cases e229
     have qi229 : (0 < t226.length) = True := eq_true (by omega)
     (try rw [show ((0 : Int)).toNat = 0 from rfl] at hx229_0)
     (try rw [Addr.add_zero'] at hx229_0)
     replace p229 := eq_true p229
     replace q229 := eq_true q229
     refine hK.out _ _ ⟨(ah BK221.out 0).trans rfl, (ah BK221.out 1).trans rfl⟩ (fun hHeld => ?_)
     have hMore_ := hHeld
     clear hHeld
     refine nQ (S2 := fun w' => w'.cell? ⟨gb221, 0, none⟩ = some (.int .i64 a0_0) ∧ w'.cell? ⟨gb221, 1, none⟩ = some (.slice A0_1 l0_1.length c0_1) ∧ w'.cell? ad229 = some (.int .i64 (rd t226 0))) (fun _ h => ⟨h.1, h.2.1⟩) ⟨hMore_.1, hMore_.2, hx229_0⟩ ?_
     have hHeld := (⟨hMore_.1, hMore_.2, hx229_0⟩ : _ ∧ _ ∧ _)
     clear hMore_
     clear hK K
     refine zn 26 ?_
     refine zp HT_ 12 27 ?_
     refine zt HT_ HW_ 13 28 hHeld ?_ (hy := by rintro w' ⟨s0, s1, s2⟩; go_simp; with_reducible rfl)
     refine zg HT_ 15 30 Tryz.func33 #[.int .u64 t223] (fun K hK => ?_)
     with_reducible refine (iy k t223 t230 _ A11.out).mono ?_
     rintro e w20 ⟨v231, rfl, ho0, hb⟩
     have HS2_ := (hb.cell (aj _ _ (hHeld.2.2))).trans (hHeld.2.2)
     refine ⟨_, rfl, ?_⟩
     have HO232 := zM (Kd.R_lower (Kd.R_new' ho0 (Kd.R_lt (zR HO228.out))) (am zB))
     replace HO228 := zM (Kd.R_elder' (zR HO228.out) (Kd.R_base ho0) hb)
     replace BK221 := zJ BK221 hb
     replace HB := zM (ag zB hb)
     (try clear hb)
     (try clear ho0)
     obtain ⟨Ao21, co21, eo21⟩ := Kd.R_slice HO232.out
     (first | subst eo21 | (injection eo21 with f1_ f2_ f3_; have f4_ := f1_.symm; have f5_ := f3_.symm; clear f1_ f2_ f3_; subst f4_; subst f5_))
     have p233 : 0 ≤ (0 : Int) := (by omega)
     have q233 : 0 < (t230.length : Int) := ac zA
     obtain ⟨ad233, e233, hx233_0⟩ := Kd.at_int (Kd.R_reads' HO232.out).2.2 0 p233 q233
     cases e233
     have qi233 : (0 < t230.length) = True := eq_true (by omega)
     (try rw [show ((0 : Int)).toNat = 0 from rfl] at hx233_0)
     (try rw [Addr.add_zero'] at hx233_0)
     replace p233 := eq_true p233
     replace q233 := eq_true q233
     refine hK.out _ _ ⟨(ah BK221.out 0).trans rfl, (ah BK221.out 1).trans rfl, HS2_⟩ (fun hHeld => ?_)
     have hMore_ := hHeld
     clear hHeld
     refine nQ (S2 := fun w' => w'.cell? ⟨gb221, 0, none⟩ = some (.int .i64 a0_0) ∧ w'.cell? ⟨gb221, 1, none⟩ = some (.slice A0_1 l0_1.length c0_1) ∧ w'.cell? ad229 = some (.int .i64 (rd t226 0)) ∧ w'.cell? ad233 = some (.int .i64 (rd t230 0))) (fun _ h => ⟨h.1, h.2.1, h.2.2.1⟩) ⟨hMore_.1, hMore_.2.1, hMore_.2.2, hx233_0⟩ ?_
     have hHeld := (⟨hMore_.1, hMore_.2.1, hMore_.2.2, hx233_0⟩ : _ ∧ _ ∧ _ ∧ _)
     clear hMore_
     clear hK K
     refine zn 30 ?_
     refine zp HT_ 16 31 ?_
     refine zt HT_ HW_ 17 32 hHeld ?_ (hy := by rintro w' ⟨s0, s1, s2, s3⟩; go_simp; with_reducible rfl)
     refine zg HT_ 18 33 Tryz.func58 #[.agg #[.int .i64 a0_0, .slice A0_1 l0_1.length c0_1], .int .i64 (rd t226 0), .int .i64 (rd t230 0)] (fun K hK => ?_)
     with_reducible refine (kv k a0_0 _ _ l0_1 (rd t226 0) (rd t230 0) t234 _ ?side1 ?side2 A13.out).mono ?_
     (case side1 => exact zC (Kd.C_below HR0_1.out HB.out))
     (case side2 => exact HC0_1.out)
     rintro e w22 ⟨rfl, hb⟩
     have HS2_ := (hb.cell (aj _ _ (hHeld.2.2.1))).trans (hHeld.2.2.1)
     have HS3_ := (hb.cell (aj _ _ (hHeld.2.2.2))).trans (hHeld.2.2.2)
     refine ⟨_, rfl, ?_⟩
     replace HO228 := zM (Kd.R_below (zR HO228.out) hb)
     replace HO232 := zM (Kd.R_below (zR HO232.out) hb)
     replace BK221 := zJ BK221 hb
     replace HB := zM (ag zB hb)
     (try clear hb)
     refine hK.out _ _ ⟨(ah BK221.out 0).trans rfl, (ah BK221.out 1).trans rfl, HS2_, HS3_⟩ (fun hHeld => ?_)
     clear hK K
     refine zn 33 ?_
     refine zp HT_ 19 34 ?_
     refine zp HT_ 20 6 ?_
     refine zo HT_ ?_
     try go_wp2
     go_ret
     exact ⟨by first | rfl | (simp [al, ak] <;> rfl) | (simp [*, al, ak] <;> rfl), zB⟩
   · rw [if_neg c8] at H
     have c8b0 : (t225 == 1) = false := beq_eq_false_iff_ne.mpr c8
     have c8b1 : (t225 != 1) = true := bne_iff_ne.mpr c8
     obtain rfl := ap H
     go_enter Tryz.func72, Tryz.ntmps72
     try go_wp2_with (first | ((with_reducible refine au (N := 3) rfl ?_); refine zb (w := w) 3 #[.int .i64 a0_0, .slice A0_1 l0_1.length c0_1] 29 zB ?_; clear HB; intro gb221 w23 HB BK221 GW221; have GE221 := GW221) | ((with_reducible refine ax (f := 89) rfl ?_); refine zc 12 Tryz.func89 #[.slice A1 l1.length c1, .slice A2 l2.length c2] ?_; (with_reducible refine (kp k _ _ l1 _ _ l2 t222 t223 _ ?side1 ?side2 ?side3 ?side4 A4.out).mono ?_); (case side1 => exact zC (Kd.C_below HR1.out HB.out)); (case side2 => exact HC1.out); (case side3 => exact zC (Kd.C_below HR2.out HB.out)); (case side4 => exact HC2.out); rintro e w' ⟨rfl, ⟨nd, rfl⟩⟩; refine ⟨_, rfl, ?_⟩))
     (try (rw [iG w23]; generalize hq_ : World.drewN w23 _ = w23; have n0_ : Aside0 (w23.heap[gb221]? = some (.cells #[.int .i64 a0_0, .slice A0_1 l0_1.length c0_1] 29 (0, 0))) := ⟨by rw [← hq_]; exact (zK BK221.out)⟩; have n1_ : Aside0 (Below w.heap.size w w23) := ⟨by rw [← hq_]; exact zB⟩; clear BK221 HB hq_; have BK221 := n0_; have HB := n1_; clear n0_ n1_))
     replace BK221 := zM (aq BK221.out)
     replace HB := zM (aD HB.out)
     refine zs (n := 21) (fun w' => True) trivial (fun hHeld => ?_); refine aX ks kt (fun HT_ HW_ => ?_)
     generalize w23.drew = w24 at BK221 HB hHeld ⊢
     refine zp HT_ 0 15 ?_
     refine zg HT_ 1 16 Tryz.func40 #[.int .u64 t222] (fun K hK => ?_)
     with_reducible refine (d5 t222 t224 _ A5.out).mono ?_
     rintro e w25 ⟨rfl, hb⟩
     refine ⟨_, rfl, ?_⟩
     replace BK221 := zJ BK221 hb
     replace HB := zM (ag zB hb)
     (try clear hb)
     refine hK.out _ _ trivial (fun hHeld => ?_)
     clear hK K
     refine zn 16 ?_
     refine zp HT_ 2 17 ?_
     refine zp HT_ 3 18 ?_
     refine zp HT_ 4 19 ?_
     refine zg HT_ 5 20 Tryz.func40 #[.int .u64 t223] (fun K hK => ?_)
     with_reducible refine (d5 t223 t225 _ A7.out).mono ?_
     rintro e w26 ⟨rfl, hb⟩
     refine ⟨_, rfl, ?_⟩
     replace BK221 := zJ BK221 hb
     replace HB := zM (ag zB hb)
     (try clear hb)
     refine hK.out _ _ trivial (fun hHeld => ?_)
     clear hK K
     refine zn 20 ?_
     refine zp HT_ 6 21 ?_
     refine zp HT_ 7 22 ?_
     refine zp HT_ 8 23 ?_
     refine zu HT_ 9 24 ?_
     refine zu HT_ 10 25 ?_
     refine zu HT_ 11 26 ?_
     refine zu HT_ 12 27 ?_
     refine zu HT_ 13 28 ?_
     refine zu HT_ 14 29 ?_
     refine zu HT_ 15 30 ?_
     refine zu HT_ 16 31 ?_
     refine zu HT_ 17 32 ?_
     refine zu HT_ 18 33 ?_
     refine zp HT_ 19 34 ?_
     refine zp HT_ 20 6 ?_
     refine zo HT_ ?_
     try go_wp2
     go_ret
     exact ⟨by first | rfl | (simp [al, ak] <;> rfl) | (simp [*, al, ak] <;> rfl), zB⟩
 · rw [if_neg c6] at H
   have c6b0 : (t224 == 1) = false := beq_eq_false_iff_ne.mpr c6
   have c6b1 : (t224 != 1) = true := bne_iff_ne.mpr c6
   obtain rfl := ap H
   go_enter Tryz.func72, Tryz.ntmps72
   try go_wp2_with (first | ((with_reducible refine au (N := 3) rfl ?_); refine zb (w := w) 3 #[.int .i64 a0_0, .slice A0_1 l0_1.length c0_1] 29 zB ?_; clear HB; intro gb221 w27 HB BK221 GW221; have GE221 := GW221) | ((with_reducible refine ax (f := 89) rfl ?_); refine zc 12 Tryz.func89 #[.slice A1 l1.length c1, .slice A2 l2.length c2] ?_; (with_reducible refine (kp k _ _ l1 _ _ l2 t222 t223 _ ?side1 ?side2 ?side3 ?side4 A4.out).mono ?_); (case side1 => exact zC (Kd.C_below HR1.out HB.out)); (case side2 => exact HC1.out); (case side3 => exact zC (Kd.C_below HR2.out HB.out)); (case side4 => exact HC2.out); rintro e w' ⟨rfl, ⟨nd, rfl⟩⟩; refine ⟨_, rfl, ?_⟩))
   (try (rw [iG w27]; generalize hq_ : World.drewN w27 _ = w27; have n0_ : Aside0 (w27.heap[gb221]? = some (.cells #[.int .i64 a0_0, .slice A0_1 l0_1.length c0_1] 29 (0, 0))) := ⟨by rw [← hq_]; exact (zK BK221.out)⟩; have n1_ : Aside0 (Below w.heap.size w w27) := ⟨by rw [← hq_]; exact zB⟩; clear BK221 HB hq_; have BK221 := n0_; have HB := n1_; clear n0_ n1_))
   replace BK221 := zM (aq BK221.out)
   replace HB := zM (aD HB.out)
   refine zs (n := 21) (fun w' => True) trivial (fun hHeld => ?_); refine aX ks kt (fun HT_ HW_ => ?_)
   generalize w27.drew = w28 at BK221 HB hHeld ⊢
   refine zp HT_ 0 15 ?_
   refine zg HT_ 1 16 Tryz.func40 #[.int .u64 t222] (fun K hK => ?_)
   with_reducible refine (d5 t222 t224 _ A5.out).mono ?_
   rintro e w29 ⟨rfl, hb⟩
   refine ⟨_, rfl, ?_⟩
   replace BK221 := zJ BK221 hb
   replace HB := zM (ag zB hb)
   (try clear hb)
   refine hK.out _ _ trivial (fun hHeld => ?_)
   clear hK K
   refine zn 16 ?_
   refine zp HT_ 2 17 ?_
   refine zp HT_ 3 18 ?_
   refine zu HT_ 4 19 ?_
   refine zu HT_ 5 20 ?_
   refine zu HT_ 6 21 ?_
   refine zp HT_ 7 22 ?_
   refine zp HT_ 8 23 ?_
   refine zu HT_ 9 24 ?_
   refine zu HT_ 10 25 ?_
   refine zu HT_ 11 26 ?_
   refine zu HT_ 12 27 ?_
   refine zu HT_ 13 28 ?_
   refine zu HT_ 14 29 ?_
   refine zu HT_ 15 30 ?_
   refine zu HT_ 16 31 ?_
   refine zu HT_ 17 32 ?_
   refine zu HT_ 18 33 ?_
   refine zp HT_ 19 34 ?_
   refine zp HT_ 20 6 ?_
   refine zo HT_ ?_
   try go_wp2
   go_ret
   exact ⟨by first | rfl | (simp [al, ak] <;> rfl) | (simp [*, al, ak] <;> rfl), zB⟩
end Go.Proofs.YtjgcehldepfaaaaGreat.P
