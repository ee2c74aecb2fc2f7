/- The contract of the laws' markIntA2S: it writes rising numbers into the pairs of a slice that the caller owns; for every world. -/
import Derived.Test.YtadjbmcfgjmhkaaSlideSpaceG5
import Derived.Handy
import Derived.Test.YtadjbmcfgjmhkaaSlideSpaceG11
import Derived.Shelf.Abstract
import Derived.Test.YtadjbmcfgjmhkaaSlideSpaceG6
import Derived.Test.YtadjbmcfgjmhkaaSlideSpaceG8
import Derived.Test.YtadjbmcfgjmhkaaSlideSpaceG7
namespace Go.Proofs.Ytadjbmcfgjmhkaa.P
open Go.RowKit Go.Proofs.YtadjbmcfgjmhkaaW.PrintWords Go.Proofs.YtadjbmcfgjmhkaaW.PrintLast Go.Proofs.YtadjbmcfgjmhkaaW.PrintMore
set_option linter.unusedVariables false
set_option linter.unusedSimpArgs false

def mark2 : List S70 → Int → Int × List S70
  | [], k => (k, [])
  | _ :: t, k => ((mark2 t (wrap64 (wrap64 (k + 1) + 1))).1, ⟨k, wrap64 (k + 1)⟩ :: (mark2 t (wrap64 (wrap64 (k + 1) + 1))).2)
def laws_markIntA2S.f (l0 : List S70) (a1 : Int) : Option (Int × (List S70)) := some (mark2 l0 a1)
/-- One pair is written. -/
theorem mark_step {W : World} {base g n cap : Nat} {ok : Nat → Prop} {xs : List S70} (h : Kd.R k70 70 W base ok (.slice (some ⟨g, 0, none⟩) n cap) xs) (m : Nat) (hm : m < n) (p q : Int) :
    Kd.R k70 70 ((W.setCell ⟨g, m * 2, none⟩ (.int .i64 p)).setCell ⟨g, m * 2 + 1, none⟩ (.int .i64 q)) base ok (.slice (some ⟨g, 0, none⟩) n cap) (xs.set m ⟨p, q⟩) ∧ W.grownBy ((W.setCell ⟨g, m * 2, none⟩ (.int .i64 p)).setCell ⟨g, m * 2 + 1, none⟩ (.int .i64 q)) (some g) := by
  obtain ⟨c, hcl, hM, hcc, hfz⟩ := Kd.R_elem h (z70) (m : Int) (by omega) (by omega)
  have hs := Kd.R_seg h (m : Int) (by omega) (by omega) (seg := [.int .i64 p, .int .i64 q]) (j := 0) hcl hcc (by show 0 + 2 ≤ 2; omega) (x' := (⟨p, q⟩ : S70)) (okp := fun k => ok k ∧ k ≠ g)
    (by rw [List.take_zero, List.nil_append, List.drop_eq_nil_of_le (by rw [hcl]; show 2 ≤ 0 + 2; omega), List.append_nil]; exact k70_mkM _ _ _ _) (fun k hk => hk)
  rw [Int.toNat_natCast, show k70.sz = 2 from rfl, Nat.add_zero] at hs
  exact hs
theorem set_mid {α : Type} (done : List α) (l : List α) (m : Nat) (hd : done.length = m) (hm : m < l.length) (x : α) : (done ++ l.drop m).set m x = (done ++ [x]) ++ l.drop (m + 1) := by
  subst hd
  rw [List.drop_eq_getElem_cons hm, List.set_append_right _ _ (Nat.le_refl _), Nat.sub_self, List.set_cons_zero, List.append_assoc, List.singleton_append]
set_option maxRecDepth 100000 in
set_option maxHeartbeats 2000000 in
theorem laws_markIntA2S.calls (P0_ : Nat → Prop) (u9000_ : Value) (l0 : List S70) (a1 : Int) (r1 : Int) (r2 : List S70) (w0 w : World) (hB : Below w0.heap.size w0 w) (ho0 : Kd.R k70 70 w w0.heap.size P0_ u9000_ l0) (h : laws_markIntA2S.f l0 a1 = some (r1, r2)) :
    Calls Try.prog 47 #[u9000_, .int .i64 a1] w fun e w' => e = .returned (.int .i64 r1) ∧ Kd.R k70 70 w' w0.heap.size (fun k_ => (P0_ k_ ∨ w.heap.size ≤ k_)) u9000_ r2 ∧ Below w0.heap.size w0 w' ∧ Kept w w' (fun k_ => P0_ k_) := by
  have HO := Aside0.mk (show Kd.R k70 70 w w0.heap.size (fun k_ => (P0_ k_ ∨ w.heap.size ≤ k_)) u9000_ l0 from Kd.R_mono ho0 (fun k_ hk => (.inl hk)))
  have HP := Aside0.mk ho0.1
  unfold laws_markIntA2S.f at h
  have H' := Aside0.mk (Option.some.inj h)
  obtain ⟨A, c, e0⟩ := Kd.R_slice ho0
  have HL := Aside0.mk (show l0.length ≤ 9223372036854775807 by
    obtain ⟨A', c', _, _, hc⟩ := Kd.R_reads ho0
    exact hc.2.1)
  have HB0 := Aside0.mk hB
  clear h hB ho0
  subst e0
  go_enter Try.func47, Try.ntmps47
  go_wp2
  go_loopg [5, 1, 6] (l0.length + 1) (fun kq v5 v1 v6 w' => ∃ (m : Nat) (kk : Int) (done : List S70), v5 = .int .i64 m ∧ v1 = .int .i64 kk ∧ Aside0 (m ≤ l0.length) ∧ Aside0 (kq = l0.length - m + 1) ∧ Aside0 (done.length = m) ∧ Aside0 ((mark2 (l0.drop m) kk).1 = r1 ∧ done ++ (mark2 (l0.drop m) kk).2 = r2) ∧ Aside0 (Kd.R k70 70 w' w0.heap.size (fun k_ => (P0_ k_ ∨ w.heap.size ≤ k_)) (.slice A l0.length c) (done ++ l0.drop m)) ∧ Aside0 (Below w0.heap.size w0 w') ∧ Aside0 (Kept w w' (fun k_ => P0_ k_)))
  case atStart => exact ⟨0, a1, [], rfl, rfl, ⟨Nat.zero_le _⟩, ⟨by omega⟩, ⟨rfl⟩, ⟨by rw [List.drop_zero, H'.out]; exact ⟨rfl, rfl⟩⟩, ⟨by rw [List.drop_zero]; exact HO.out⟩, HB0, ⟨Kept.refl _ _⟩⟩
  case round =>
    clear H' HO HB0
    obtain ⟨m, kk, done, rfl, rfl, HM, HK1, HD, HA, HO, HB, HK⟩ := hrel
    have HN := Aside0.mk (show (done ++ l0.drop m).length = l0.length by rw [List.length_append, List.length_drop, HD.out]; have := HM.out; omega)
    by_cases c1 : m < l0.length
    · have q1 : (m : Int) < (l0.length : Int) := by omega
      obtain ⟨g, cap, eg, gb, gl, HG⟩ := Kd.R_form HO.out (by rw [HN.out]; omega)
      rw [HN.out] at eg
      injection eg with eA _ ec
      subst eA; subst ec
      have GB := Aside0.mk gb
      have HPg := Aside0.mk (HP.out g rfl)
      obtain ⟨cs, hcl, hM, hcc, hfz⟩ := Kd.R_elem HO.out (z70) (m : Int) (by omega) q1
      obtain rfl := k70_openM hM
      have hx0 := hcc 0 _ rfl
      have hx1 := hcc 1 _ rfl
      have hf0 := hfz 0
      have hf1 := hfz 1
      rw [Int.toNat_natCast, show k70.sz = 2 from rfl] at hx0 hx1 hf0 hf1
      rw [Nat.add_zero] at hx0 hf0
      have HS := Aside0.mk (mark_step HO.out m c1 kk (wrap64 (kk + 1)))
      have hx1' : (wr.setCell ⟨g, m * 2, none⟩ (.int .i64 kk)).cell? ⟨g, m * 2 + 1, none⟩ = _ := (World.cell?_setCell_other wr _ _ _ (by simp)).trans hx1
      have HE := Aside0.mk (set_mid done l0 m HD.out c1 (⟨kk, wrap64 (kk + 1)⟩ : S70))
      have H2 : Aside0 ((mark2 (l0.drop (m + 1)) (wrap64 (wrap64 (kk + 1) + 1))).1 = r1 ∧ (done ++ [⟨kk, wrap64 (kk + 1)⟩]) ++ (mark2 (l0.drop (m + 1)) (wrap64 (wrap64 (kk + 1) + 1))).2 = r2) := ⟨by
        have e_ := HA.out
        rw [List.drop_eq_getElem_cons c1] at e_
        simp only [mark2] at e_
        rw [List.append_assoc, List.singleton_append]
        exact e_⟩
      clear HA hM hcc hfz hcl gl HG gb
      have c1b : decide ((m : Int) < (l0.length : Int)) = true := decide_eq_true q1
      have c1c : decide (m < l0.length) = true := decide_eq_true c1
      have p1 : (0 : Int) ≤ (m : Int) := by omega
      have hw1 : (m : Int) + 1 ≤ 9223372036854775807 := by have := HL.out; omega
      replace p1 := eq_true p1
      replace q1 := eq_true q1
      clear c1
      go_wp2
      refine wp_loop_rounds 3 ?_
      rw [rounds_succ]; go_wp2
      rw [rounds_succ]; go_wp2
      rw [rounds_succ]; go_wp2
      go_roundg (l0.length - m)
      case measure => have := HK1.out; have := HM.out; omega
      case rel => exact ⟨m + 1, _, done ++ [⟨kk, wrap64 (kk + 1)⟩], by first | rfl | (simp; done) | go_num, rfl, ⟨by have := of_eq_true q1; omega⟩, ⟨by have := of_eq_true q1; omega⟩, ⟨by rw [List.length_append, HD.out]; rfl⟩, H2, ⟨by rw [← HE.out]; exact HS.out.1⟩, ⟨pw_below_grown HB.out (some g) HB.out.size HS.out.2 (fun k_ e_ => by injection e_ with e_; subst e_; exact GB.out)⟩, ⟨Kept.of_grown HS.out.2 HK.out (fun k_ e_ => by injection e_ with e_; subst e_; exact .inl HPg.out)⟩⟩
    · have q1 : ¬ (m : Int) < (l0.length : Int) := by omega
      have c1b : decide ((m : Int) < (l0.length : Int)) = false := decide_eq_false q1
      have c1c : decide (m < l0.length) = false := decide_eq_false c1
      have H3 : Aside0 (kk = r1 ∧ done ++ l0.drop m = r2) := ⟨by
        have e_ := HA.out
        rw [List.drop_eq_nil_of_le (show l0.length ≤ m by omega)] at e_ ⊢
        exact e_⟩
      clear HA c1 q1
      go_wp2
      go_ret
      exact ⟨by have e_ := H3.out.1; subst e_; rfl, by rw [← H3.out.2]; exact HO.out, HB.out, HK.out⟩

end Go.Proofs.Ytadjbmcfgjmhkaa.P
namespace Go.Proofs.Ytadjbmcfgjmhkaa.P
open Go.RowKit Go.Proofs.YtadjbmcfgjmhkaaW.PrintWords Go.Proofs.YtadjbmcfgjmhkaaW.PrintLast Go.Proofs.YtadjbmcfgjmhkaaW.PrintMore
set_option linter.unusedVariables false
set_option linter.unusedSimpArgs false
section
variable {α β : Type}
theorem Ev.pos {c : Prop} [Decidable c] {f g : Nat → Option α} {r : α} (h : c) (k : Ev f r) : Ev (fun n => if c then f n else g n) r := by simpa only [if_pos h] using k
theorem Ev.neg {c : Prop} [Decidable c] {f g : Nat → Option α} {r : α} (h : ¬ c) (k : Ev g r) : Ev (fun n => if c then f n else g n) r := by simpa only [if_neg h] using k
theorem Ev.bindo {o : Option α} {f : Nat → α → Option β} {a : α} {r : β} (h : o = some a) (k : Ev (fun n => f n a) r) : Ev (fun n => o.bind (f n)) r := by simpa only [h, Option.bind_some] using k
theorem Ev.some {o : Option α} {r : α} (h : o = some r) : Ev (fun _ => o) r := ⟨0, fun _ _ => h⟩
end
theorem wrap_nat {m : Int} (h : -9223372036854775808 ≤ m) (h2 : m ≤ 9223372036854775807) : wrap64 m = m := by unfold wrap64; omega
theorem wrap_up {m n : Nat} (h : m < n) (hn : n ≤ 9223372036854775807) : wrap64 ((m : Int) + 1) = ((m + 1 : Nat) : Int) := by unfold wrap64; omega
theorem rd_at (l : List Int) (m : Nat) (h : m < l.length) : rd l (m : Int) = l[m] := by simp [rd, List.getD_eq_getElem?_getD, List.getElem?_eq_getElem h]
theorem rdT_at (l : List S70) (m : Nat) (h : m < l.length) : rd_T70 l (m : Int) = l[m] := by simp [rd_T70, List.getD_eq_getElem?_getD, List.getElem?_eq_getElem h]

/-! The size of a graph that comes in. -/
theorem sz_graph (a : Int) (l : List S70) (hl : l.length ≤ 9223372036854775807) : ∃ t, laws_szGraph.f a l 1048576 = some t ∧ (t < 0 ∨ l.length ≤ 1048576) := by
  unfold laws_szGraph.f laws_szIntA2S.f
  rw [wrap_nat (m := 1048576 - (l.length : Int)) (by omega) (by omega)]
  by_cases h : (1048576 - (l.length : Int)) < 0
  · rw [if_pos h]; exact ⟨-1, rfl, .inl (by omega)⟩
  · rw [if_neg h, Option.bind_some, if_neg h]; exact ⟨_, rfl, .inr (by omega)⟩
/-! Copies. -/
theorem take_set_next {α : Type} (l acc : List α) (m : Nat) (hm : m < l.length) (ha : acc.length = l.length) (h : acc.take m = l.take m) : (acc.set m l[m]).take (m + 1) = l.take (m + 1) := by
  rw [List.take_succ_eq_append_getElem (by rw [List.length_set]; omega), List.take_succ_eq_append_getElem hm, List.getElem_set_self, List.take_set_of_le (Nat.le_refl _), h]
theorem toIntA2S_loop (l : List S70) (hl : l.length ≤ 1048576) (d : Nat) : ∀ (acc : List S70) (m : Nat), l.length - m = d → m ≤ l.length → acc.length = l.length → acc.take m = l.take m →
    Ev (fun k => laws_toIntA2S.l0 k l acc (m : Int)) l := by
  induction d with
  | zero =>
    intro acc m h0 h1 h2 h3
    refine Ev.step (fun k => by rw [laws_toIntA2S.l0]) ?_
    refine Ev.neg (by omega) ?_
    have : acc = l := by rw [← List.take_length (l := acc), ← List.take_length (l := l), h2, show l.length = m by omega]; exact h3
    rw [this]
    exact Ev.now _
  | succ d ih =>
    intro acc m h0 h1 h2 h3
    have hm : m < l.length := by omega
    refine Ev.step (fun k => by rw [laws_toIntA2S.l0]) ?_
    refine Ev.pos (by omega) (Ev.pos (by omega) (Ev.bindo rfl (Ev.pos (by omega) ?_)))
    rw [wrap_up hm (by omega), rdT_at l m hm, Int.toNat_natCast]
    exact ih _ (m + 1) (by omega) (by omega) (by rw [List.length_set]; exact h2) (take_set_next l acc m hm h2 h3)
theorem toIntA2S_ev (l : List S70) (hl : l.length ≤ 1048576) : Ev (fun k => laws_toIntA2S.f k l) l := by
  unfold laws_toIntA2S.f
  refine Ev.pos (by omega) (Ev.pos (by omega) ?_)
  exact toIntA2S_loop l hl l.length _ 0 (by omega) (Nat.zero_le _) (by simp) (by simp)
theorem toGraph_ev (a : Int) (l : List S70) (hl : l.length ≤ 1048576) : Ev (fun k => laws_toGraph.f k a l) (a, l) := by
  unfold laws_toGraph.f
  exact Ev.bind (toIntA2S_ev l hl) (Ev.now _)
/-! Comparisons of equals. -/
theorem eqIntA2S_loop (l : List S70) (hl : l.length ≤ 1048576) (d : Nat) : ∀ (m : Nat), l.length - m = d → m ≤ l.length → Ev (fun k => laws_eqIntA2S.l0 k l l (m : Int)) true := by
  induction d with
  | zero =>
    intro m h0 h1
    refine Ev.step (fun k => by rw [laws_eqIntA2S.l0]) ?_
    exact Ev.neg (by omega) (Ev.now _)
  | succ d ih =>
    intro m h0 h1
    have hm : m < l.length := by omega
    refine Ev.step (fun k => by rw [laws_eqIntA2S.l0]) ?_
    refine Ev.pos (by omega) (Ev.pos (by omega) (Ev.pos (by omega) (Ev.bindo (a := true) (by simp [laws_eqIntA2.f]) (Ev.pos rfl ?_))))
    rw [wrap_up hm (by omega)]
    exact ih (m + 1) (by omega) (by omega)
theorem eqIntA2S_ev (l : List S70) (hl : l.length ≤ 1048576) : Ev (fun k => laws_eqIntA2S.f k l l) true := by
  unfold laws_eqIntA2S.f
  exact Ev.pos rfl (eqIntA2S_loop l hl l.length 0 (by omega) (Nat.zero_le _))
theorem eqGraph_ev (a : Int) (l : List S70) (hl : l.length ≤ 1048576) : Ev (fun k => laws_eqGraph.f k a l a l) true := by
  unfold laws_eqGraph.f
  exact Ev.pos rfl (Ev.bind (eqIntA2S_ev l hl) (Ev.pos rfl (Ev.now _)))
theorem eqIntS_loop (l : List Int) (hl : l.length ≤ 1048576) (d : Nat) : ∀ (m : Nat), l.length - m = d → m ≤ l.length → Ev (fun k => laws_eqIntS.l0 k l l (m : Int)) true := by
  induction d with
  | zero =>
    intro m h0 h1
    refine Ev.step (fun k => by rw [laws_eqIntS.l0]) ?_
    exact Ev.neg (by omega) (Ev.now _)
  | succ d ih =>
    intro m h0 h1
    have hm : m < l.length := by omega
    refine Ev.step (fun k => by rw [laws_eqIntS.l0]) ?_
    refine Ev.pos (by omega) (Ev.pos (by omega) (Ev.pos (by omega) (Ev.pos rfl ?_)))
    rw [wrap_up hm (by omega)]
    exact ih (m + 1) (by omega) (by omega)
theorem eqIntS_ev (l : List Int) (hl : l.length ≤ 1048576) : Ev (fun k => laws_eqIntS.f k l l) true := by
  unfold laws_eqIntS.f
  exact Ev.pos rfl (eqIntS_loop l hl l.length 0 (by omega) (Nat.zero_le _))
end Go.Proofs.Ytadjbmcfgjmhkaa.P
namespace Go.Proofs.Ytadjbmcfgjmhkaa.P
open Go.RowKit Go.Proofs.YtadjbmcfgjmhkaaW.PrintWords Go.Proofs.YtadjbmcfgjmhkaaW.PrintLast Go.Proofs.YtadjbmcfgjmhkaaW.PrintMore
set_option linter.unusedVariables false
set_option linter.unusedSimpArgs false

/-- Function g, bound to the variables lb, answers p; memory that was there stays. -/
def PredB {α : Type} (g : Nat) (lb : Array Value) (enc : α → Value) (p : α → Bool) (l : List α) (w : World) : Prop :=
  ∀ (W : World) (x : α), x ∈ l → Below w.heap.size w W → Calls Try.prog g (#[enc x] ++ lb) W fun e w' => e = .returned (.bool (p x)) ∧ Below W.heap.size W w'


set_option maxRecDepth 100000 in
set_option maxHeartbeats 2000000 in
theorem idxf_prs (g : Nat) (lb : Array Value) (eg : ∀ (args : Array Value) (w : World), (callFunc g args).run Try.prog w = .ok (.enter g args) w) (p : S70 → Bool) (A0 : Option Addr) (c0 : Nat) (l0 : List S70) (w : World) (hr0 : Kd.C k70 w A0 l0.length l0)
    (hp : PredB g lb (fun x : S70 => Value.agg #[.int .i64 x.f0, .int .i64 x.f1]) p l0 w) :
    Calls Try.prog 116 #[.slice A0 l0.length c0, .func (.func g) #[] lb] w fun e w' => (∃ r : Int, e = .returned (.int .i64 r) ∧ (0 ≤ r ↔ l0.any p = true)) ∧ Below w.heap.size w w' := by
  have HR0 := Aside0.mk hr0
  have HP := Aside0.mk hp
  have HL := Aside0.mk (hr0.2.1)
  clear hr0 hp
  go_enter Try.func116, Try.ntmps116
  go_wp2
  go_loopg [8, 5] (l0.length + 1) (fun kq v8 v5 w' => ∃ (m : Nat), v8 = .int .i64 m ∧ Aside0 (m ≤ l0.length) ∧ Aside0 (kq = l0.length - m + 1) ∧ Aside0 ((l0.take m).any p = false) ∧ Aside0 (Below w.heap.size w w'))
  case atStart => exact ⟨0, rfl, ⟨Nat.zero_le _⟩, ⟨by omega⟩, ⟨by simp⟩, ⟨Below.refl _ _⟩⟩
  case round =>
    obtain ⟨m, rfl, HM, HK1, HA, HB⟩ := hrel
    by_cases c1 : m < l0.length
    · have p1 : (0 : Int) ≤ (m : Int) := by omega
      have q1 : (m : Int) < (l0.length : Int) := by omega
      obtain ⟨ad, e1, hx0, hx1⟩ := at_T70 HR0.out (m : Int) p1 q1
      cases e1
      replace hx0 := (HB.out.cell (World.block_lt_of_cell? w _ hx0)).trans hx0
      replace hx1 := (HB.out.cell (World.block_lt_of_cell? w _ hx1)).trans hx1
      rw [Int.toNat_natCast] at hx0 hx1
      have HG := Aside0.mk (show l0[m] = rd_T70 l0 m by simp [rd_T70, List.getD_eq_getElem?_getD, List.getElem?_eq_getElem c1])
      have HT := Aside0.mk (show (l0.take (m + 1)).any p = p (rd_T70 l0 m) by rw [List.take_succ_eq_append_getElem c1, List.any_append, HA.out, HG.out]; simp)
      have HQ := Aside0.mk (show p (rd_T70 l0 m) = true → l0.any p = true from fun hq => List.any_eq_true.2 ⟨l0[m], List.getElem_mem c1, by rw [HG.out]; exact hq⟩)
      have c1b : decide ((m : Int) < (l0.length : Int)) = true := decide_eq_true q1
      have c1c : decide (m < l0.length) = true := decide_eq_true c1
      have hw1 : (m : Int) + 1 ≤ 9223372036854775807 := by have := HL.out; omega
      have hcall := HP.out _ (rd_T70 l0 m) (by rw [← HG.out]; exact List.getElem_mem c1) HB.out
      have HC := Aside0.mk hcall
      replace p1 := eq_true p1
      replace q1 := eq_true q1
      clear c1 hcall HG HA
      cases hq : p (rd_T70 l0 m) with
      | true =>
        have HQ2 := Aside0.mk (HQ.out hq)
        rw [hq] at HC
        clear hq HQ HT
        go_wp2_with (go_at_fn g; refine HC.out.mono ?_; rintro e w' ⟨rfl, hb⟩)
        go_ret
        exact ⟨⟨_, rfl, ⟨fun _ => HQ2.out, fun _ => by have := of_eq_true p1; first | exact this | (simpa using this) | omega⟩⟩, below_step HB.out hb⟩
      | false =>
        rw [hq] at HT HC
        clear hq HQ
        go_wp2_with (go_at_fn g; refine HC.out.mono ?_; rintro e w' ⟨rfl, hb⟩)
        go_roundg (l0.length - m)
        case measure => have := HK1.out; have := HM.out; omega
        case rel => exact ⟨m + 1, by first | rfl | (simp; done) | go_num, ⟨by have := of_eq_true q1; omega⟩, ⟨by have := of_eq_true q1; omega⟩, HT, ⟨below_step HB.out hb⟩⟩
    · have q1 : ¬ (m : Int) < (l0.length : Int) := by omega
      have c1b : decide ((m : Int) < (l0.length : Int)) = false := decide_eq_false q1
      have c1c : decide (m < l0.length) = false := decide_eq_false c1
      have H3 : Aside0 (l0.any p = false) := ⟨by
        have e_ := HA.out
        rw [List.take_of_length_le (show l0.length ≤ m by omega)] at e_
        exact e_⟩
      clear HA c1 q1
      go_wp2
      go_ret
      exact ⟨⟨-1, rfl, by rw [H3.out]; simp⟩, HB.out⟩
set_option maxRecDepth 100000 in
set_option maxHeartbeats 2000000 in
theorem cont_prs (g : Nat) (lb : Array Value) (eg : ∀ (args : Array Value) (w : World), (callFunc g args).run Try.prog w = .ok (.enter g args) w) (p : S70 → Bool) (A0 : Option Addr) (c0 : Nat) (l0 : List S70) (w : World) (hr0 : Kd.C k70 w A0 l0.length l0)
    (hp : PredB g lb (fun x : S70 => Value.agg #[.int .i64 x.f0, .int .i64 x.f1]) p l0 w) :
    Calls Try.prog 96 #[.slice A0 l0.length c0, .func (.func g) #[] lb] w fun e w' => e = .returned (.bool (l0.any p)) ∧ Below w.heap.size w w' := by
  have HR0 := Aside0.mk hr0
  have HP := Aside0.mk hp
  clear hr0 hp
  go_enter Try.func96, Try.ntmps96
  go_wp2_with (go_at_call 116; refine (idxf_prs g lb eg p A0 c0 l0 w HR0.out HP.out).mono ?_; rintro e w' ⟨⟨r, rfl, hr⟩, hb⟩; have HQ := Aside0.mk hr; have HB := Aside0.mk hb; clear hr hb)
  go_ret
  refine ⟨?_, HB.out⟩
  have := HQ.out
  cases ha : l0.any p <;> rw [ha] at this <;> simp at this <;> simp <;> omega

end Go.Proofs.Ytadjbmcfgjmhkaa.P
namespace Go.Proofs.Ytadjbmcfgjmhkaa.P
open Go.RowKit Go.Proofs.YtadjbmcfgjmhkaaW.PrintWords Go.Proofs.YtadjbmcfgjmhkaaW.PrintLast Go.Proofs.YtadjbmcfgjmhkaaW.PrintMore
attribute [local go_sem] max2_int min2_int max_two min_two max_three min_three max_four min_four   -- for this text's walks alone
set_option linter.unusedVariables false
set_option linter.unusedSimpArgs false

/-! ### slices_Compare_int_int: function 83 -/
def slices_Compare_int_int.l0 : Nat → List Int → List Int → List Int → Int → Int → Option (Int)
 | 0, _, _, _, _, _ => none
 | k + 1, x0, x1, x9, x10, x11 => if x11 < x10 then (if 0 ≤ x11 then (if x11 < (x9.length : Int) then (if x11 ≥ (x1.length : Int) then (some 1) else (if x11 < (x1.length : Int) then ((cmp_Compare_int.f (rd x9 x11) (rd x1 x11)).bind fun t345 => (if t345 = 0 then (slices_Compare_int_int.l0 k x0 x1 x9 x10 (wrap64 (x11 + 1))) else (some t345))) else (none))) else (none)) else (none)) else (if (x0.length : Int) < (x1.length : Int) then (some (-1)) else (some 0))
def slices_Compare_int_int.f (k : Nat) (l0 : List Int) (l1 : List Int) : Option (Int) := slices_Compare_int_int.l0 k l0 l1 l0 (l0.length : Int) 0
set_option maxHeartbeats 8000000 in
set_option maxRecDepth 100000 in
theorem slices_Compare_int_int.calls (k : Nat) (A0 : Option Addr) (c0 : Nat) (l0 : List Int) (A1 : Option Addr) (c1 : Nat) (l1 : List Int) (r : Int) (w : World) (hr0 : Kd.C (Kd.int .i64) w A0 l0.length l0) (hc0 : l0.length ≤ c0) (hr1 : Kd.C (Kd.int .i64) w A1 l1.length l1) (hc1 : l1.length ≤ c1) (h : slices_Compare_int_int.f k l0 l1 = some r) :
 Calls Try.prog 83 #[.slice A0 l0.length c0, .slice A1 l1.length c1] w fun e w' => e = .returned (.int .i64 r) ∧ Drawn0 w w' := by
 have HR0 := Aside0.mk hr0
 have HC0 := Aside0.mk hc0
 clear hr0 hc0
 have HR1 := Aside0.mk hr1
 have HC1 := Aside0.mk hc1
 clear hr1 hc1
 have H : (slices_Compare_int_int.l0 k l0 l1 l0 (l0.length : Int) 0) = some r := h
 clear h
 have H' := Aside0.mk H
 clear H
 go_enter Try.func83, Try.ntmps83
 go_wp2
 go_loopg [11] k (fun kq v11 w' => ∃ (x11_1 : Int), v11 = .int .i64 x11_1 ∧ Aside0 (slices_Compare_int_int.l0 kq l0 l1 l0 (l0.length : Int) x11_1 = some r) ∧ Aside0 (kq ≤ k) ∧ Drawn0 w w')
 case atStart => exact ⟨(0), (by first | rfl | (simp; done) | (simp [*]; done)), H', ⟨Nat.le_refl _⟩, by repeat (first | exact Drawn0.refl _ | apply Drawn0.step)⟩
 case round =>
  clear H'
  try clear c1
  try clear p2
  obtain ⟨x11_1, rfl, HA, HK1, ⟨m1, rfl⟩⟩ := hrel
  cases gk with
  | zero => exact absurd HA.out (by simp [slices_Compare_int_int.l0])
  | succ k1 =>
   have H := HA.out
   clear HA
   simp only [slices_Compare_int_int.l0] at H
   by_cases c3 : x11_1 < (l0.length : Int)
   · rw [if_pos c3] at H
     have c3b0 := decide_eq_true c3
     clear c3
     by_cases c4 : 0 ≤ x11_1
     · rw [if_pos c4] at H
       have c4b0 := decide_eq_true c4
       clear c4
       by_cases c5 : x11_1 < (l0.length : Int)
       · rw [if_pos c5] at H
         have c5b0 := decide_eq_true c5
         clear c5
         by_cases c6 : x11_1 ≥ (l1.length : Int)
         · rw [if_pos c6] at H
           have c6b0 : decide ((l1.length : Int) ≤ x11_1) = true := decide_eq_true c6
           clear c6
           obtain rfl := Option.some.inj H
           have p343 : 0 ≤ (x11_1 : Int) := of_decide_eq_true zA
           have q343 : x11_1 < (l0.length : Int) := of_decide_eq_true zA
           obtain ⟨ad343, e343, hx343_0⟩ := Kd.at_int HR0.out x11_1 p343 q343
           cases e343
           replace p343 := eq_true p343
           replace q343 := eq_true q343
           go_wp2
           go_ret
           exact ⟨by first | rfl | (simp; done) | (simp [*]; done), by repeat (first | exact Drawn0.refl _ | apply Drawn0.step)⟩
         · rw [if_neg c6] at H
           have c6b0 : decide ((l1.length : Int) ≤ x11_1) = false := decide_eq_false c6
           clear c6
           by_cases c7 : x11_1 < (l1.length : Int)
           · rw [if_pos c7] at H
             have c7b0 := decide_eq_true c7
             clear c7
             replace H := Option.bind_eq_some_iff.mp H
             obtain ⟨t345, A80, H⟩ := H
             have A8 := Aside0.mk A80
             clear A80
             by_cases c9 : t345 = 0
             · rw [if_pos c9] at H
               have c9b0 : (t345 == 0) = true := beq_iff_eq.mpr c9
               have c9b1 : (t345 != 0) = false := bne_eq_false_iff_eq.mpr c9
               clear c9
               have H' := Aside0.mk H
               clear H
               have p343 : 0 ≤ (x11_1 : Int) := of_decide_eq_true zA
               have q343 : x11_1 < (l0.length : Int) := of_decide_eq_true zA
               obtain ⟨ad343, e343, hx343_0⟩ := Kd.at_int HR0.out x11_1 p343 q343
               cases e343
               replace p343 := eq_true p343
               replace q343 := eq_true q343
               have p344 : 0 ≤ (x11_1 : Int) := of_decide_eq_true zA
               have q344 : x11_1 < (l1.length : Int) := of_decide_eq_true zA
               obtain ⟨ad344, e344, hx344_0⟩ := Kd.at_int HR1.out x11_1 p344 q344
               cases e344
               replace p344 := eq_true p344
               replace q344 := eq_true q344
               go_wp2_with (first | ((with_reducible refine gate_callee (f := 109) rfl ?_); refine zc 26 Try.func109 #[.int .i64 (rd l0 x11_1), .int .i64 (rd l1 x11_1)] ?_; (with_reducible refine (cmp_Compare_int.calls (rd l0 x11_1) (rd l1 x11_1) t345 _ A8.out).mono ?_); rintro e w' ⟨rfl, ⟨nd, rfl⟩⟩; refine ⟨_, rfl, ?_⟩))
               go_roundg k1
               case measure => have := HK1.out; omega
               case rel => exact ⟨(wrap64 (x11_1 + 1)), (by first | rfl | (simp; done) | (simp [*]; done)), H', ⟨by have := HK1.out; omega⟩, by repeat (first | exact Drawn0.refl _ | apply Drawn0.step)⟩
             · rw [if_neg c9] at H
               have c9b0 : (t345 == 0) = false := beq_eq_false_iff_ne.mpr c9
               have c9b1 : (t345 != 0) = true := bne_iff_ne.mpr c9
               obtain rfl := Option.some.inj H
               have p343 : 0 ≤ (x11_1 : Int) := of_decide_eq_true zA
               have q343 : x11_1 < (l0.length : Int) := of_decide_eq_true zA
               obtain ⟨ad343, e343, hx343_0⟩ := Kd.at_int HR0.out x11_1 p343 q343
               cases e343
               replace p343 := eq_true p343
               replace q343 := eq_true q343
               have p344 : 0 ≤ (x11_1 : Int) := of_decide_eq_true zA
               have q344 : x11_1 < (l1.length : Int) := of_decide_eq_true zA
               obtain ⟨ad344, e344, hx344_0⟩ := Kd.at_int HR1.out x11_1 p344 q344
               cases e344
               replace p344 := eq_true p344
               replace q344 := eq_true q344
               go_wp2_with (first | ((with_reducible refine gate_callee (f := 109) rfl ?_); refine zc 26 Try.func109 #[.int .i64 (rd l0 x11_1), .int .i64 (rd l1 x11_1)] ?_; (with_reducible refine (cmp_Compare_int.calls (rd l0 x11_1) (rd l1 x11_1) t345 _ A8.out).mono ?_); rintro e w' ⟨rfl, ⟨nd, rfl⟩⟩; refine ⟨_, rfl, ?_⟩))
               go_ret
               exact ⟨by first | rfl | (simp; done) | (simp [*]; done), by repeat (first | exact Drawn0.refl _ | apply Drawn0.step)⟩
           · rw [if_neg c7] at H
             exact absurd H (by simp)
       · rw [if_neg c5] at H
         exact absurd H (by simp)
     · rw [if_neg c4] at H
       exact absurd H (by simp)
   · rw [if_neg c3] at H
     have c3b0 : decide (x11_1 < (l0.length : Int)) = false := decide_eq_false c3
     clear c3
     by_cases c10 : (l0.length : Int) < (l1.length : Int)
     · rw [if_pos c10] at H
       have c10b0 := decide_eq_true c10
       have c10b1 : decide (l0.length < l1.length) = true := decide_eq_true (Int.ofNat_lt.mp c10)
       clear c10
       obtain rfl := Option.some.inj H
       go_wp2
       go_ret
       exact ⟨by first | rfl | (simp; done) | (simp [*]; done), by repeat (first | exact Drawn0.refl _ | apply Drawn0.step)⟩
     · rw [if_neg c10] at H
       have c10b0 : decide ((l0.length : Int) < (l1.length : Int)) = false := decide_eq_false c10
       have c10b1 : decide (l0.length < l1.length) = false := decide_eq_false (fun h => c10 (Int.ofNat_lt.mpr h))
       clear c10
       obtain rfl := Option.some.inj H
       go_wp2
       go_ret
       exact ⟨by first | rfl | (simp; done) | (simp [*]; done), by repeat (first | exact Drawn0.refl _ | apply Drawn0.step)⟩

end Go.Proofs.Ytadjbmcfgjmhkaa.P
namespace Go.Proofs.Ytadjbmcfgjmhkaa.P
open Go.RowKit Go.Proofs.YtadjbmcfgjmhkaaW.PrintWords Go.Proofs.YtadjbmcfgjmhkaaW.PrintLast Go.Proofs.YtadjbmcfgjmhkaaW.PrintMore
set_option linter.unusedVariables false
set_option linter.unusedSimpArgs false

def cmpI (a b : Int) : Int := if a < b then -1 else if a > b then 1 else 0
theorem cmp_Compare_at (a b : Int) : cmp_Compare_int.f a b = some (cmpI a b) := by
  unfold cmp_Compare_int.f cmp_isNaN_int.f cmpI
  simp only [Option.bind_some, bne_self_eq_false, Bool.false_eq_true, if_false]
  split
  · rfl
  · split <;> rfl
def cmpL : List Int → List Int → Int
  | [], [] => 0
  | [], _ :: _ => -1
  | _ :: _, [] => 1
  | a :: x, b :: y => if cmpI a b = 0 then cmpL x y else cmpI a b
theorem wrap_succ {m n : Nat} (h : m < n) (hn : n ≤ 9223372036854775807) : wrap64 ((m : Int) + 1) = ((m + 1 : Nat) : Int) := by unfold wrap64; omega
theorem slices_Compare_loop (l0 l1 : List Int) (hl : Aside0 (l0.length ≤ 9223372036854775807)) (d : Nat) : ∀ (k m : Nat), l0.length - m = d → m ≤ l0.length → m ≤ l1.length → d < k →
    slices_Compare_int_int.l0 k l0 l1 l0 (l0.length : Int) (m : Int) = some (cmpL (l0.drop m) (l1.drop m)) := by
  induction d with
  | zero =>
    intro k m h0 h1 h2 hk
    obtain ⟨k, rfl⟩ : ∃ q, k = q + 1 := ⟨k - 1, by omega⟩
    have e : m = l0.length := by omega
    subst e
    rw [slices_Compare_int_int.l0, if_neg (by omega), List.drop_length]
    by_cases h : l0.length < l1.length
    · rw [if_pos (by omega), List.drop_eq_getElem_cons h]; rfl
    · have e3 : l1.drop l0.length = [] := List.drop_eq_nil_of_le (by omega)
      rw [if_neg (by omega), e3]; rfl
  | succ d ih =>
    intro k m h0 h1 h2 hk
    obtain ⟨k, rfl⟩ : ∃ q, k = q + 1 := ⟨k - 1, by omega⟩
    have hm : m < l0.length := by omega
    rw [slices_Compare_int_int.l0, if_pos (by omega), if_pos (by omega), if_pos (by omega)]
    by_cases h : m < l1.length
    · rw [if_neg (by omega), if_pos (by omega), cmp_Compare_at, Option.bind_some]
      have e0 : rd l0 m = l0[m] := by simp [rd, List.getD_eq_getElem?_getD, List.getElem?_eq_getElem hm]
      have e1 : rd l1 m = l1[m] := by simp [rd, List.getD_eq_getElem?_getD, List.getElem?_eq_getElem h]
      rw [e0, e1, List.drop_eq_getElem_cons hm, List.drop_eq_getElem_cons h, cmpL]
      split
      · rw [wrap_succ hm hl.out]
        exact ih k (m + 1) (by omega) (by omega) (by omega) (by omega)
      · rfl
    · have e3 : l1.drop m = [] := List.drop_eq_nil_of_le (by omega)
      rw [if_pos (by omega), List.drop_eq_getElem_cons hm, e3]; rfl
theorem slices_Compare_at (l0 l1 : List Int) (hl : l0.length ≤ 9223372036854775807) (k : Nat) (hk : l0.length < k) : slices_Compare_int_int.f k l0 l1 = some (cmpL l0 l1) :=
  slices_Compare_loop l0 l1 ⟨hl⟩ l0.length k 0 (by omega) (Nat.zero_le _) (Nat.zero_le _) hk
def cmpP (a b : S70) : Int := if cmpI a.f0 b.f0 = 0 then cmpI a.f1 b.f1 else cmpI a.f0 b.f0
theorem comparePairs_at (a b : S70) (k : Nat) (hk : 3 ≤ k) : impl_comparePairs.f k a.f0 a.f1 b.f0 b.f1 = some (cmpP a b) := by
  obtain ⟨k, rfl⟩ : ∃ q, k = q + 3 := ⟨k - 3, by omega⟩
  unfold impl_comparePairs.f cmp_Or_int.f
  simp only [cmp_Compare_at, Option.bind_some]
  unfold cmpP
  generalize cmpI a.f0 b.f0 = x
  generalize cmpI a.f1 b.f1 = y
  have w1 : wrap64 (0 + 1) = 1 := by unfold wrap64; omega
  have w2 : wrap64 (1 + 1) = 2 := by unfold wrap64; omega
  have r0 : rd [x, y] 0 = x := rfl
  have r1 : rd [x, y] 1 = y := rfl
  have hn : (([x, y] : List Int).length : Int) = 2 := rfl
  rw [hn, cmp_Or_int.l0, if_pos (by omega), if_pos (by omega), hn, if_pos (by omega), r0, w1]
  by_cases h : x = 0
  · rw [if_pos h, if_pos h, cmp_Or_int.l0, if_pos (by omega), if_pos (by omega), hn, if_pos (by omega), r1, w2]
    by_cases h2 : y = 0
    · rw [if_pos h2, cmp_Or_int.l0, if_neg (by omega), h2]; rfl
    · rw [if_neg h2]; rfl
  · rw [if_neg h, if_neg h]; rfl
end Go.Proofs.Ytadjbmcfgjmhkaa.P
namespace Go.Proofs.Ytadjbmcfgjmhkaa.P
open Go.RowKit Go.Proofs.YtadjbmcfgjmhkaaW.PrintWords Go.Proofs.YtadjbmcfgjmhkaaW.PrintLast Go.Proofs.YtadjbmcfgjmhkaaW.PrintMore
set_option linter.unusedVariables false
set_option linter.unusedSimpArgs false

theorem in_at (a lo hi : Int) : spec_l1In.f a lo hi = some (decide (lo ≤ a) && decide (a ≤ hi)) := by
  unfold spec_l1In.f
  by_cases h : lo ≤ a
  · rw [if_pos h, decide_eq_true h, Bool.true_and]
  · rw [if_neg h, decide_eq_false h, Bool.false_and]
theorem between_at (a lo hi : Int) : impl_between.f a lo hi = some (decide (lo ≤ a) && decide (a ≤ hi)) := by
  unfold impl_between.f
  by_cases h : lo ≤ a
  · rw [if_pos h, decide_eq_true h, Bool.true_and]
  · rw [if_neg h, decide_eq_false h, Bool.false_and]
/-- A pair comes before another one. -/
def befP (a b : S70) : Bool := decide (a.f0 < b.f0) || (decide (a.f0 = b.f0) && decide (a.f1 < b.f1))
theorem edge_at (a b : S70) : spec_l2Edge.f a.f0 a.f1 b.f0 b.f1 = some (befP a b) := by
  unfold spec_l2Edge.f befP
  by_cases h : a.f0 < b.f0
  · rw [if_pos h, decide_eq_true h, Bool.true_or]
  · rw [if_neg h, decide_eq_false h, Bool.false_or]
    by_cases h2 : a.f0 = b.f0
    · rw [if_pos h2, decide_eq_true h2, Bool.true_and]
    · rw [if_neg h2, decide_eq_false h2, Bool.false_and]
theorem cmpP_bef (a b : S70) : (cmpP a b < 0) ↔ befP a b = true := by
  unfold cmpP befP cmpI
  simp only [Bool.or_eq_true, Bool.and_eq_true, decide_eq_true_eq]
  by_cases h : a.f0 < b.f0
  · simp [h]
  · by_cases h2 : b.f0 < a.f0
    · have : ¬ a.f0 = b.f0 := by omega
      simp [h, h2, this]
    · have h3 : a.f0 = b.f0 := by omega
      by_cases h4 : a.f1 < b.f1
      · simp [h3, h4]
      · by_cases h5 : b.f1 < a.f1 <;> simp [h3, h4, h5]
/-- Pairs of numbers from 0 on below n, the less one first, strictly ascending behind a first one. -/
def goodP (n : Int) : Option S70 → List S70 → Bool
  | _, [] => true
  | p, e :: t => (decide (0 ≤ e.f0) && decide (e.f0 < e.f1) && decide (e.f1 < n)) && ((match p with | none => true | some q => befP q e) && goodP n (some e) t)
def prevP (l : List S70) : Nat → Option S70
  | 0 => none
  | m + 1 => l[m]?
theorem goodP_step (l : List S70) (n : Int) (m : Nat) (hm : m < l.length) : goodP n (prevP l m) (l.drop m) = ((decide (0 ≤ l[m].f0) && decide (l[m].f0 < l[m].f1) && decide (l[m].f1 < n)) && ((match prevP l m with | none => true | some q => befP q l[m]) && goodP n (prevP l (m + 1)) (l.drop (m + 1)))) := by
  rw [List.drop_eq_getElem_cons hm, show prevP l (m + 1) = some l[m] from List.getElem?_eq_getElem hm]
  cases prevP l m <;> rfl
theorem l2Pairs_loop (l : List S70) (n : Int) (hn : 0 ≤ n) (hn2 : n ≤ 4611686018427387904) (hl : l.length ≤ 1048576) (d : Nat) : ∀ (m : Nat), l.length - m = d → m ≤ l.length →
    Ev (fun k => spec_l2Pairs.l0 k l n (m : Int)) (goodP n (prevP l m) (l.drop m)) := by
  induction d with
  | zero =>
    intro m h0 h1
    refine Ev.step (fun k => by rw [spec_l2Pairs.l0]) ?_
    have e3 : l.drop m = [] := List.drop_eq_nil_of_le (by omega)
    rw [e3]
    refine Ev.neg (by omega) ?_
    cases prevP l m <;> exact Ev.now _
  | succ d ih =>
    intro m h0 h1
    have hm : m < l.length := by omega
    refine Ev.step (fun k => by rw [spec_l2Pairs.l0]) ?_
    rw [goodP_step l n m hm]
    refine Ev.pos (by omega) (Ev.pos (by omega) ?_)
    rw [rdT_at l m hm, wrap_nat (m := n - 1) (by omega) (by omega)]
    have ihm := ih (m + 1) (by omega) (by omega)
    rw [← wrap_up hm (by omega)] at ihm
    generalize goodP n (prevP l (m + 1)) (l.drop (m + 1)) = R at ihm ⊢
    refine Ev.bindo (in_at _ _ _) ?_
    by_cases c1 : 0 ≤ l[m].f0
    · by_cases c2 : l[m].f0 ≤ n - 1
      · refine Ev.pos (by simp [c1, c2]) (Ev.bindo (in_at _ _ _) ?_)
        by_cases c3 : 0 ≤ l[m].f1 ∧ l[m].f1 ≤ n - 1
        · refine Ev.pos (by simp [c3.1, c3.2]) ?_
          by_cases c4 : l[m].f0 ≥ l[m].f1
          · have : (decide (0 ≤ l[m].f0) && decide (l[m].f0 < l[m].f1) && decide (l[m].f1 < n)) = false := by simp; omega
            rw [this, Bool.false_and]
            exact Ev.pos c4 (Ev.now _)
          · have : (decide (0 ≤ l[m].f0) && decide (l[m].f0 < l[m].f1) && decide (l[m].f1 < n)) = true := by simp; omega
            rw [this, Bool.true_and]
            refine Ev.neg c4 ?_
            cases m with
            | zero =>
              refine Ev.neg (by omega) ?_
              simp only [prevP, Bool.true_and]
              exact ihm
            | succ q =>
              have hq : q < l.length := by omega
              have hw : wrap64 (((q + 1 : Nat) : Int) - 1) = (q : Int) := by unfold wrap64; omega
              refine Ev.pos (by omega) ?_
              rw [hw]
              refine Ev.pos (by omega) (Ev.pos (by omega) ?_)
              rw [rdT_at l q hq]
              refine Ev.bindo (edge_at _ _) ?_
              simp only [prevP, List.getElem?_eq_getElem hq]
              cases befP l[q] l[q + 1] with
              | true => rw [Bool.true_and]; exact Ev.pos rfl ihm
              | false => rw [Bool.false_and]; exact Ev.neg (by decide) (Ev.now _)
        · have : (decide (0 ≤ l[m].f0) && decide (l[m].f0 < l[m].f1) && decide (l[m].f1 < n)) = false := by simp; omega
          rw [this, Bool.false_and]
          exact Ev.neg (by simp; omega) (Ev.now _)
      · have : (decide (0 ≤ l[m].f0) && decide (l[m].f0 < l[m].f1) && decide (l[m].f1 < n)) = false := by simp; omega
        rw [this, Bool.false_and]
        exact Ev.neg (by simp; omega) (Ev.now _)
    · have : (decide (0 ≤ l[m].f0) && decide (l[m].f0 < l[m].f1) && decide (l[m].f1 < n)) = false := by simp; omega
      rw [this, Bool.false_and]
      exact Ev.neg (by simp; omega) (Ev.now _)
theorem isPairs_loop (l : List S70) (n : Int) (hl : l.length ≤ 1048576) (d : Nat) : ∀ (m : Nat), l.length - m = d → m ≤ l.length →
    Ev (fun k => impl_isPairs.l0 k l n l (l.length : Int) (m : Int)) (goodP n (prevP l m) (l.drop m)) := by
  induction d with
  | zero =>
    intro m h0 h1
    refine Ev.step (fun k => by rw [impl_isPairs.l0]) ?_
    have e3 : l.drop m = [] := List.drop_eq_nil_of_le (by omega)
    rw [e3]
    refine Ev.neg (by omega) ?_
    cases prevP l m <;> exact Ev.now _
  | succ d ih =>
    intro m h0 h1
    have hm : m < l.length := by omega
    refine Ev.step (fun k => by rw [impl_isPairs.l0]) ?_
    rw [goodP_step l n m hm]
    refine Ev.pos (by omega) (Ev.pos (by omega) (Ev.pos (by omega) ?_))
    rw [rdT_at l m hm]
    have ihm := ih (m + 1) (by omega) (by omega)
    rw [← wrap_up hm (by omega)] at ihm
    generalize goodP n (prevP l (m + 1)) (l.drop (m + 1)) = R at ihm ⊢
    by_cases c1 : l[m].f0 < 0
    · have : (decide (0 ≤ l[m].f0) && decide (l[m].f0 < l[m].f1) && decide (l[m].f1 < n)) = false := by simp; omega
      rw [this, Bool.false_and]
      exact Ev.pos c1 (Ev.now _)
    · refine Ev.neg c1 ?_
      by_cases c2 : l[m].f0 ≥ l[m].f1
      · have : (decide (0 ≤ l[m].f0) && decide (l[m].f0 < l[m].f1) && decide (l[m].f1 < n)) = false := by simp; omega
        rw [this, Bool.false_and]
        exact Ev.pos c2 (Ev.now _)
      · refine Ev.neg c2 ?_
        by_cases c3 : l[m].f1 ≥ n
        · have : (decide (0 ≤ l[m].f0) && decide (l[m].f0 < l[m].f1) && decide (l[m].f1 < n)) = false := by simp; omega
          rw [this, Bool.false_and]
          exact Ev.pos c3 (Ev.now _)
        · have : (decide (0 ≤ l[m].f0) && decide (l[m].f0 < l[m].f1) && decide (l[m].f1 < n)) = true := by simp; omega
          rw [this, Bool.true_and]
          refine Ev.neg c3 ?_
          cases m with
          | zero =>
            refine Ev.neg (by omega) ?_
            simp only [prevP, Bool.true_and]
            exact ihm
          | succ q =>
            have hq : q < l.length := by omega
            have hw : wrap64 (((q + 1 : Nat) : Int) - 1) = (q : Int) := by unfold wrap64; omega
            refine Ev.pos (by omega) ?_
            rw [hw]
            refine Ev.pos (by omega) (Ev.pos (by omega) ?_)
            rw [rdT_at l q hq]
            refine Ev.bind (a := cmpP l[q] l[q + 1]) ⟨3, fun k hk => comparePairs_at _ _ k hk⟩ ?_
            simp only [prevP, List.getElem?_eq_getElem hq]
            have hb := cmpP_bef l[q] l[q + 1]
            cases hbb : befP l[q] l[q + 1] with
            | true => rw [Bool.true_and]; exact Ev.neg (by have := hb.2 hbb; omega) ihm
            | false => rw [Bool.false_and]; exact Ev.pos (by rw [hbb] at hb; have : ¬ cmpP l[q] l[q+1] < 0 := fun h => by have := hb.1 h; cases this
                                                             omega) (Ev.now _)
theorem l2Pairs_ev (l : List S70) (n : Int) (hn : 0 ≤ n) (hn2 : n ≤ 4611686018427387904) (hl : l.length ≤ 1048576) : Ev (fun k => spec_l2Pairs.f k l n) (goodP n none l) :=
  l2Pairs_loop l n hn hn2 hl l.length 0 (by omega) (Nat.zero_le _)
theorem isPairs_ev (l : List S70) (n : Int) (hl : l.length ≤ 1048576) : Ev (fun k => impl_isPairs.f k l n) (goodP n none l) :=
  isPairs_loop l n hl l.length 0 (by omega) (Nat.zero_le _)
/-- A valid graph. -/
def okG (a : Int) (l : List S70) : Bool := (decide (0 ≤ a) && decide (a ≤ 8)) && goodP a none l
theorem l2Good_ev (a : Int) (l : List S70) (hl : l.length ≤ 1048576) : Ev (fun k => spec_l2Good.f k a l) (okG a l) := by
  unfold spec_l2Good.f okG
  refine Ev.bindo (in_at _ _ _) ?_
  by_cases h : (decide (0 ≤ a) && decide (a ≤ 8)) = true
  · rw [h, Bool.true_and]
    simp at h
    exact Ev.pos rfl (Ev.bind (l2Pairs_ev l a h.1 (by omega) hl) (Ev.now _))
  · have h2 : (decide (0 ≤ a) && decide (a ≤ 8)) = false := by simpa using h
    rw [h2, Bool.false_and]
    exact Ev.neg (by decide) (Ev.now _)
theorem impl_IsGraph_ev (a : Int) (l : List S70) (hl : l.length ≤ 1048576) : Ev (fun k => impl_IsGraph.f k a l) (okG a l) := by
  unfold impl_IsGraph.f okG
  refine Ev.bindo (between_at _ _ _) ?_
  by_cases h : (decide (0 ≤ a) && decide (a ≤ 8)) = true
  · rw [h, Bool.true_and]
    exact Ev.pos rfl (Ev.bind (isPairs_ev l a hl) (Ev.now _))
  · have h2 : (decide (0 ≤ a) && decide (a ≤ 8)) = false := by simpa using h
    rw [h2, Bool.false_and]
    exact Ev.neg (by decide) (Ev.now _)
end Go.Proofs.Ytadjbmcfgjmhkaa.P
namespace Go.Proofs.Ytadjbmcfgjmhkaa.P
open Go.RowKit Go.Proofs.YtadjbmcfgjmhkaaW.PrintWords Go.Proofs.YtadjbmcfgjmhkaaW.PrintLast Go.Proofs.YtadjbmcfgjmhkaaW.PrintMore
attribute [local go_sem] max2_int min2_int max_two min_two max_three min_three max_four min_four   -- for this text's walks alone
set_option linter.unusedVariables false
set_option linter.unusedSimpArgs false

/-! ### laws_eqIntSS: function 17 -/
def laws_eqIntSS.l0 : Nat → List (List Int) → List (List Int) → Int → Option (Bool)
 | 0, _, _, _ => none
 | k + 1, x0, x1, x5 => if x5 < (x0.length : Int) then (if 0 ≤ x5 then (if x5 < (x1.length : Int) then ((laws_eqIntS.f k (rd_L2 x0 x5) (rd_L2 x1 x5)).bind fun t126 => (if t126 = true then (laws_eqIntSS.l0 k x0 x1 (wrap64 (x5 + 1))) else (some false))) else (none)) else (none)) else (some true)
def laws_eqIntSS.f (k : Nat) (l0 : List (List Int)) (l1 : List (List Int)) : Option (Bool) := if (l0.length : Int) = (l1.length : Int) then (laws_eqIntSS.l0 k l0 l1 0) else (some false)
set_option maxHeartbeats 8000000 in
set_option maxRecDepth 100000 in
theorem laws_eqIntSS.calls (k : Nat) (A0 : Option Addr) (c0 : Nat) (l0 : List (List Int)) (A1 : Option Addr) (c1 : Nat) (l1 : List (List Int)) (r : Bool) (w : World) (hr0 : Kd.C (Kd.slice 3 (Kd.int .i64)) w A0 l0.length l0) (hc0 : l0.length ≤ c0) (hr1 : Kd.C (Kd.slice 3 (Kd.int .i64)) w A1 l1.length l1) (hc1 : l1.length ≤ c1) (h : laws_eqIntSS.f k l0 l1 = some r) :
 Calls Try.prog 17 #[.slice A0 l0.length c0, .slice A1 l1.length c1] w fun e w' => e = .returned (.bool r) ∧ Drawn0 w w' := by
 have HR0 := Aside0.mk hr0
 have HC0 := Aside0.mk hc0
 clear hr0 hc0
 have HR1 := Aside0.mk hr1
 have HC1 := Aside0.mk hc1
 clear hr1 hc1
 have H : (if (l0.length : Int) = (l1.length : Int) then (laws_eqIntSS.l0 k l0 l1 0) else (some false)) = some r := h
 clear h
 by_cases c3 : (l0.length : Int) = (l1.length : Int)
 · rw [if_pos c3] at H
   have c3b0 : ((l0.length : Int) == (l1.length : Int)) = true := beq_iff_eq.mpr c3
   have c3b1 : ((l0.length : Int) != (l1.length : Int)) = false := bne_eq_false_iff_eq.mpr c3
   have c3b2 : (l0.length == l1.length) = true := by first | simpa using c3 | (simp at c3 ⊢; omega)
   clear c3
   have H' := Aside0.mk H
   clear H
   go_enter Try.func17, Try.ntmps17
   go_wp2
   repeat (go_quiet (fail); try go_wp2)
   go_loopg [5] k (fun kq v5 w' => ∃ (x5_1 : Int), v5 = .int .i64 x5_1 ∧ Aside0 (laws_eqIntSS.l0 kq l0 l1 x5_1 = some r) ∧ Aside0 (kq ≤ k) ∧ Drawn0 w w')
   case atStart => exact ⟨(0), (by first | rfl | (simp; done) | (simp [*]; done)), H', ⟨Nat.le_refl _⟩, by repeat (first | exact Drawn0.refl _ | apply Drawn0.step)⟩
   case round =>
    clear H'
    try clear c1
    try clear p2
    try clear c3
    try clear c3b0
    try clear c3b1
    try clear c3b2
    obtain ⟨x5_1, rfl, HA, HK1, ⟨m1, rfl⟩⟩ := hrel
    cases gk with
    | zero => exact absurd HA.out (by simp [laws_eqIntSS.l0])
    | succ k1 =>
     have H := HA.out
     clear HA
     simp only [laws_eqIntSS.l0] at H
     by_cases c4 : x5_1 < (l0.length : Int)
     · rw [if_pos c4] at H
       have c4b0 := decide_eq_true c4
       clear c4
       by_cases c5 : 0 ≤ x5_1
       · rw [if_pos c5] at H
         have c5b0 := decide_eq_true c5
         clear c5
         by_cases c6 : x5_1 < (l1.length : Int)
         · rw [if_pos c6] at H
           have c6b0 := decide_eq_true c6
           clear c6
           replace H := Option.bind_eq_some_iff.mp H
           obtain ⟨t126, A70, H⟩ := H
           have A7 := Aside0.mk A70
           clear A70
           by_cases c8 : t126 = true
           · subst c8
             rw [if_pos rfl] at H
             have H' := Aside0.mk H
             clear H
             have p124 : 0 ≤ (x5_1 : Int) := of_decide_eq_true zA
             have q124 : x5_1 < (l0.length : Int) := of_decide_eq_true zA
             obtain ⟨ad124, A124_0, c124_0, e124, hx124_0, hl124_0, hi124_0⟩ := at_L2 HR0.out x5_1 p124 q124
             cases e124
             have HR124_0 := Aside0.mk hi124_0
             have HC124_0 := Aside0.mk hl124_0
             clear hi124_0 hl124_0
             replace p124 := eq_true p124
             replace q124 := eq_true q124
             have p125 : 0 ≤ (x5_1 : Int) := of_decide_eq_true zA
             have q125 : x5_1 < (l1.length : Int) := of_decide_eq_true zA
             obtain ⟨ad125, A125_0, c125_0, e125, hx125_0, hl125_0, hi125_0⟩ := at_L2 HR1.out x5_1 p125 q125
             cases e125
             have HR125_0 := Aside0.mk hi125_0
             have HC125_0 := Aside0.mk hl125_0
             clear hi125_0 hl125_0
             replace p125 := eq_true p125
             replace q125 := eq_true q125
             go_wp2_with (first | (go_at_call 23; (with_reducible refine (laws_eqIntS.calls k1 _ _ (rd_L2 l0 x5_1) _ _ (rd_L2 l1 x5_1) true _ ?side1 ?side2 ?side3 ?side4 A7.out).mono ?_); (case side1 => exact zC HR124_0.out); (case side2 => exact HC124_0.out); (case side3 => exact zC HR125_0.out); (case side4 => exact HC125_0.out); rintro e w' ⟨rfl, ⟨nd, rfl⟩⟩; (try exact zD)))
             repeat (go_quiet (first | (go_at_call 23; (with_reducible refine (laws_eqIntS.calls k1 _ _ (rd_L2 l0 x5_1) _ _ (rd_L2 l1 x5_1) true _ ?side1 ?side2 ?side3 ?side4 A7.out).mono ?_); (case side1 => exact zC HR124_0.out); (case side2 => exact HC124_0.out); (case side3 => exact zC HR125_0.out); (case side4 => exact HC125_0.out); rintro e w' ⟨rfl, ⟨nd, rfl⟩⟩; (try exact zD))); try go_wp2_with (first | (go_at_call 23; (with_reducible refine (laws_eqIntS.calls k1 _ _ (rd_L2 l0 x5_1) _ _ (rd_L2 l1 x5_1) true _ ?side1 ?side2 ?side3 ?side4 A7.out).mono ?_); (case side1 => exact zC HR124_0.out); (case side2 => exact HC124_0.out); (case side3 => exact zC HR125_0.out); (case side4 => exact HC125_0.out); rintro e w' ⟨rfl, ⟨nd, rfl⟩⟩; (try exact zD))))
             go_roundg k1
             case measure => have := HK1.out; omega
             case rel => exact ⟨(wrap64 (x5_1 + 1)), (by first | rfl | (simp; done) | (simp [*]; done)), H', ⟨by have := HK1.out; omega⟩, by repeat (first | exact Drawn0.refl _ | apply Drawn0.step)⟩
           · replace c8 := Bool.eq_false_iff.mpr c8
             subst c8
             have H1 : (some false) = some r := by rw [if_neg (show ¬ (false = true) by decide)] at H; exact H
             clear H
             have H := H1
             clear H1
             obtain rfl := Option.some.inj H
             have p124 : 0 ≤ (x5_1 : Int) := of_decide_eq_true zA
             have q124 : x5_1 < (l0.length : Int) := of_decide_eq_true zA
             obtain ⟨ad124, A124_0, c124_0, e124, hx124_0, hl124_0, hi124_0⟩ := at_L2 HR0.out x5_1 p124 q124
             cases e124
             have HR124_0 := Aside0.mk hi124_0
             have HC124_0 := Aside0.mk hl124_0
             clear hi124_0 hl124_0
             replace p124 := eq_true p124
             replace q124 := eq_true q124
             have p125 : 0 ≤ (x5_1 : Int) := of_decide_eq_true zA
             have q125 : x5_1 < (l1.length : Int) := of_decide_eq_true zA
             obtain ⟨ad125, A125_0, c125_0, e125, hx125_0, hl125_0, hi125_0⟩ := at_L2 HR1.out x5_1 p125 q125
             cases e125
             have HR125_0 := Aside0.mk hi125_0
             have HC125_0 := Aside0.mk hl125_0
             clear hi125_0 hl125_0
             replace p125 := eq_true p125
             replace q125 := eq_true q125
             go_wp2_with (first | (go_at_call 23; (with_reducible refine (laws_eqIntS.calls k1 _ _ (rd_L2 l0 x5_1) _ _ (rd_L2 l1 x5_1) false _ ?side1 ?side2 ?side3 ?side4 A7.out).mono ?_); (case side1 => exact zC HR124_0.out); (case side2 => exact HC124_0.out); (case side3 => exact zC HR125_0.out); (case side4 => exact HC125_0.out); rintro e w' ⟨rfl, ⟨nd, rfl⟩⟩; (try exact zD)))
             repeat (go_quiet (first | (go_at_call 23; (with_reducible refine (laws_eqIntS.calls k1 _ _ (rd_L2 l0 x5_1) _ _ (rd_L2 l1 x5_1) false _ ?side1 ?side2 ?side3 ?side4 A7.out).mono ?_); (case side1 => exact zC HR124_0.out); (case side2 => exact HC124_0.out); (case side3 => exact zC HR125_0.out); (case side4 => exact HC125_0.out); rintro e w' ⟨rfl, ⟨nd, rfl⟩⟩; (try exact zD))); try go_wp2_with (first | (go_at_call 23; (with_reducible refine (laws_eqIntS.calls k1 _ _ (rd_L2 l0 x5_1) _ _ (rd_L2 l1 x5_1) false _ ?side1 ?side2 ?side3 ?side4 A7.out).mono ?_); (case side1 => exact zC HR124_0.out); (case side2 => exact HC124_0.out); (case side3 => exact zC HR125_0.out); (case side4 => exact HC125_0.out); rintro e w' ⟨rfl, ⟨nd, rfl⟩⟩; (try exact zD))))
             go_ret
             exact ⟨by first | rfl | (simp; done) | (simp [*]; done), by repeat (first | exact Drawn0.refl _ | apply Drawn0.step)⟩
         · rw [if_neg c6] at H
           exact absurd H (by simp)
       · rw [if_neg c5] at H
         exact absurd H (by simp)
     · rw [if_neg c4] at H
       have c4b0 : decide (x5_1 < (l0.length : Int)) = false := decide_eq_false c4
       clear c4
       obtain rfl := Option.some.inj H
       go_wp2
       repeat (go_quiet (fail); try go_wp2)
       go_ret
       exact ⟨by first | rfl | (simp; done) | (simp [*]; done), by repeat (first | exact Drawn0.refl _ | apply Drawn0.step)⟩
 · rw [if_neg c3] at H
   have c3b0 : ((l0.length : Int) == (l1.length : Int)) = false := beq_eq_false_iff_ne.mpr c3
   have c3b1 : ((l0.length : Int) != (l1.length : Int)) = true := bne_iff_ne.mpr c3
   have c3b2 : (l0.length == l1.length) = false := by first | simpa using c3 | (simp at c3 ⊢; omega)
   obtain rfl := Option.some.inj H
   go_enter Try.func17, Try.ntmps17
   go_wp2
   repeat (go_quiet (fail); try go_wp2)
   go_ret
   exact ⟨by first | rfl | (simp; done) | (simp [*]; done), by repeat (first | exact Drawn0.refl _ | apply Drawn0.step)⟩

/-! ### laws_eqSpace: function 30 -/
def laws_eqSpace.f (k : Nat) (l0_0 : List (List Int)) (l0_1 : List (S70)) (l1_0 : List (List Int)) (l1_1 : List (S70)) : Option (Bool) := (laws_eqIntSS.f k l0_0 l1_0).bind fun t129 => (if t129 = true then ((laws_eqIntA2S.f k l0_1 l1_1).bind fun t130 => (if t130 = true then (some true) else (some false))) else (some false))
set_option maxHeartbeats 8000000 in
set_option maxRecDepth 100000 in
theorem laws_eqSpace.calls (k : Nat) (A0_0 : Option Addr) (c0_0 : Nat) (l0_0 : List (List Int)) (A0_1 : Option Addr) (c0_1 : Nat) (l0_1 : List (S70)) (A1_0 : Option Addr) (c1_0 : Nat) (l1_0 : List (List Int)) (A1_1 : Option Addr) (c1_1 : Nat) (l1_1 : List (S70)) (r : Bool) (w : World) (hr0_0 : Kd.C (Kd.slice 3 (Kd.int .i64)) w A0_0 l0_0.length l0_0) (hc0_0 : l0_0.length ≤ c0_0) (hr0_1 : Kd.C k70 w A0_1 l0_1.length l0_1) (hc0_1 : l0_1.length ≤ c0_1) (hr1_0 : Kd.C (Kd.slice 3 (Kd.int .i64)) w A1_0 l1_0.length l1_0) (hc1_0 : l1_0.length ≤ c1_0) (hr1_1 : Kd.C k70 w A1_1 l1_1.length l1_1) (hc1_1 : l1_1.length ≤ c1_1) (h : laws_eqSpace.f k l0_0 l0_1 l1_0 l1_1 = some r) :
 Calls Try.prog 30 #[.agg #[.slice A0_0 l0_0.length c0_0, .slice A0_1 l0_1.length c0_1], .agg #[.slice A1_0 l1_0.length c1_0, .slice A1_1 l1_1.length c1_1]] w fun e w' => e = .returned (.bool r) ∧ Below w.heap.size w w' := by
 have hu46 := Try.underlying46
 have HR0_0 := Aside0.mk hr0_0
 have HC0_0 := Aside0.mk hc0_0
 clear hr0_0 hc0_0
 have HR0_1 := Aside0.mk hr0_1
 have HC0_1 := Aside0.mk hc0_1
 clear hr0_1 hc0_1
 have HR1_0 := Aside0.mk hr1_0
 have HC1_0 := Aside0.mk hc1_0
 clear hr1_0 hc1_0
 have HR1_1 := Aside0.mk hr1_1
 have HC1_1 := Aside0.mk hc1_1
 clear hr1_1 hc1_1
 have HB := zM (Below.refl w.heap.size w)
 have H : ((laws_eqIntSS.f k l0_0 l1_0).bind fun t129 => (if t129 = true then ((laws_eqIntA2S.f k l0_1 l1_1).bind fun t130 => (if t130 = true then (some true) else (some false))) else (some false))) = some r := h
 clear h
 replace H := Option.bind_eq_some_iff.mp H
 obtain ⟨t129, A30, H⟩ := H
 have A3 := Aside0.mk A30
 clear A30
 by_cases c4 : t129 = true
 · subst c4
   rw [if_pos rfl] at H
   replace H := Option.bind_eq_some_iff.mp H
   obtain ⟨t130, A50, H⟩ := H
   have A5 := Aside0.mk A50
   clear A50
   by_cases c6 : t130 = true
   · subst c6
     rw [if_pos rfl] at H
     obtain rfl := Option.some.inj H
     go_enter Try.func30, Try.ntmps30
     go_wp2_with (first | ((with_reducible refine gate_dst (N := 2) rfl ?_); refine zb (w := w) 2 #[.slice A0_0 l0_0.length c0_0, .slice A0_1 l0_1.length c0_1] 46 zB ?_; clear HB; intro gb127 w7 HB BK127 GW127; have GE127 := GW127) | ((with_reducible refine gate_dst (N := 3) rfl ?_); refine ze 3 #[.slice A1_0 l1_0.length c1_0, .slice A1_1 l1_1.length c1_1] 46 ?_; intro gb128 hg w8 hbox hb; have BK128 := zM (hbox); have GW128 := zM ((by rw [hg]; exact (below_size zB) : w.heap.size ≤ gb128)); have GE128 := zM ((by rw [hg]; exact (below_size zB) : w.heap.size ≤ gb128)); replace HB := zM (below_step zB hb); have NB127_128 := zM ((by rw [hg]; exact Nat.ne_of_lt (blk_lt (g := gb127) (o := .cells #[.slice A0_0 l0_0.length c0_0, .slice A0_1 l0_1.length c0_1] 46 (0, 0)) (zK BK127.out)) : gb127 ≠ gb128)); have NB128_127 := zM ((by rw [hg]; exact Nat.ne_of_gt (blk_lt (g := gb127) (o := .cells #[.slice A0_0 l0_0.length c0_0, .slice A0_1 l0_1.length c0_1] 46 (0, 0)) (zK BK127.out)) : gb128 ≠ gb127)); replace BK127 := zM (blk_below (g := gb127) (o := .cells #[.slice A0_0 l0_0.length c0_0, .slice A0_1 l0_1.length c0_1] 46 (0, 0)) (zK BK127.out) hb); clear hb hbox hg; have hnb9 := NB127_128.out; have hnc9 := NB128_127.out; have hcz10_0 := zy BK127 0; have hcz10_1 := zy BK127 1; have hfz10_0 := blk_frozen BK127.out 0; have hfz10_1 := blk_frozen BK127.out 1; have hcz11_0 := zy BK128 0; have hcz11_1 := zy BK128 1; have hfz11_0 := blk_frozen BK128.out 0; have hfz11_1 := blk_frozen BK128.out 1) | ((with_reducible refine gate_callee (f := 17) rfl ?_); refine zc 9 Try.func17 #[.slice A0_0 l0_0.length c0_0, .slice A1_0 l1_0.length c1_0] ?_; (with_reducible refine (laws_eqIntSS.calls k _ _ l0_0 _ _ l1_0 true _ ?side1 ?side2 ?side3 ?side4 A3.out).mono ?_); (case side1 => exact zC (Kd.C_below HR0_0.out HB.out)); (case side2 => exact HC0_0.out); (case side3 => exact zC (Kd.C_below HR1_0.out HB.out)); (case side4 => exact HC1_0.out); rintro e w' ⟨rfl, ⟨nd, rfl⟩⟩; refine ⟨_, rfl, ?_⟩) | ((with_reducible refine gate_callee (f := 44) rfl ?_); refine zc 15 Try.func44 #[.slice A0_1 l0_1.length c0_1, .slice A1_1 l1_1.length c1_1] ?_; (with_reducible refine (laws_eqIntA2S.calls k _ _ l0_1 _ _ l1_1 true _ ?side1 ?side2 ?side3 ?side4 A5.out).mono ?_); (case side1 => exact zC (Kd.C_below HR0_1.out zB)); (case side2 => exact HC0_1.out); (case side3 => exact zC (Kd.C_below HR1_1.out zB)); (case side4 => exact HC1_1.out); rintro e w12 ⟨rfl, hb⟩; refine ⟨_, rfl, ?_⟩; replace BK127 := zM (blk_below (g := gb127) (o := .cells #[.slice A0_0 l0_0.length c0_0, .slice A0_1 l0_1.length c0_1] 46 (0, 0)) (zK BK127.out) hb); replace BK128 := zM (blk_below (g := gb128) (o := .cells #[.slice A1_0 l1_0.length c1_0, .slice A1_1 l1_1.length c1_1] 46 (0, 0)) (zK BK128.out) hb); replace HB := zM (below_step zB hb); (try clear hb); (try clear hb2); (try clear hk); (try clear hi)))
     go_ret
     exact ⟨by first | rfl | (simp [errW_none, errW_some] <;> rfl) | (simp [*, errW_none, errW_some] <;> rfl), zB⟩
   · replace c6 := Bool.eq_false_iff.mpr c6
     subst c6
     have H1 : (some false) = some r := by rw [if_neg (show ¬ (false = true) by decide)] at H; exact H
     clear H
     have H := H1
     clear H1
     obtain rfl := Option.some.inj H
     go_enter Try.func30, Try.ntmps30
     go_wp2_with (first | ((with_reducible refine gate_dst (N := 2) rfl ?_); refine zb (w := w) 2 #[.slice A0_0 l0_0.length c0_0, .slice A0_1 l0_1.length c0_1] 46 zB ?_; clear HB; intro gb127 w13 HB BK127 GW127; have GE127 := GW127) | ((with_reducible refine gate_dst (N := 3) rfl ?_); refine ze 3 #[.slice A1_0 l1_0.length c1_0, .slice A1_1 l1_1.length c1_1] 46 ?_; intro gb128 hg w14 hbox hb; have BK128 := zM (hbox); have GW128 := zM ((by rw [hg]; exact (below_size zB) : w.heap.size ≤ gb128)); have GE128 := zM ((by rw [hg]; exact (below_size zB) : w.heap.size ≤ gb128)); replace HB := zM (below_step zB hb); have NB127_128 := zM ((by rw [hg]; exact Nat.ne_of_lt (blk_lt (g := gb127) (o := .cells #[.slice A0_0 l0_0.length c0_0, .slice A0_1 l0_1.length c0_1] 46 (0, 0)) (zK BK127.out)) : gb127 ≠ gb128)); have NB128_127 := zM ((by rw [hg]; exact Nat.ne_of_gt (blk_lt (g := gb127) (o := .cells #[.slice A0_0 l0_0.length c0_0, .slice A0_1 l0_1.length c0_1] 46 (0, 0)) (zK BK127.out)) : gb128 ≠ gb127)); replace BK127 := zM (blk_below (g := gb127) (o := .cells #[.slice A0_0 l0_0.length c0_0, .slice A0_1 l0_1.length c0_1] 46 (0, 0)) (zK BK127.out) hb); clear hb hbox hg; have hnb15 := NB127_128.out; have hnc15 := NB128_127.out; have hcz16_0 := zy BK127 0; have hcz16_1 := zy BK127 1; have hfz16_0 := blk_frozen BK127.out 0; have hfz16_1 := blk_frozen BK127.out 1; have hcz17_0 := zy BK128 0; have hcz17_1 := zy BK128 1; have hfz17_0 := blk_frozen BK128.out 0; have hfz17_1 := blk_frozen BK128.out 1) | ((with_reducible refine gate_callee (f := 17) rfl ?_); refine zc 9 Try.func17 #[.slice A0_0 l0_0.length c0_0, .slice A1_0 l1_0.length c1_0] ?_; (with_reducible refine (laws_eqIntSS.calls k _ _ l0_0 _ _ l1_0 true _ ?side1 ?side2 ?side3 ?side4 A3.out).mono ?_); (case side1 => exact zC (Kd.C_below HR0_0.out HB.out)); (case side2 => exact HC0_0.out); (case side3 => exact zC (Kd.C_below HR1_0.out HB.out)); (case side4 => exact HC1_0.out); rintro e w' ⟨rfl, ⟨nd, rfl⟩⟩; refine ⟨_, rfl, ?_⟩) | ((with_reducible refine gate_callee (f := 44) rfl ?_); refine zc 15 Try.func44 #[.slice A0_1 l0_1.length c0_1, .slice A1_1 l1_1.length c1_1] ?_; (with_reducible refine (laws_eqIntA2S.calls k _ _ l0_1 _ _ l1_1 false _ ?side1 ?side2 ?side3 ?side4 A5.out).mono ?_); (case side1 => exact zC (Kd.C_below HR0_1.out zB)); (case side2 => exact HC0_1.out); (case side3 => exact zC (Kd.C_below HR1_1.out zB)); (case side4 => exact HC1_1.out); rintro e w18 ⟨rfl, hb⟩; refine ⟨_, rfl, ?_⟩; replace BK127 := zM (blk_below (g := gb127) (o := .cells #[.slice A0_0 l0_0.length c0_0, .slice A0_1 l0_1.length c0_1] 46 (0, 0)) (zK BK127.out) hb); replace BK128 := zM (blk_below (g := gb128) (o := .cells #[.slice A1_0 l1_0.length c1_0, .slice A1_1 l1_1.length c1_1] 46 (0, 0)) (zK BK128.out) hb); replace HB := zM (below_step zB hb); (try clear hb); (try clear hb2); (try clear hk); (try clear hi)))
     go_ret
     exact ⟨by first | rfl | (simp [errW_none, errW_some] <;> rfl) | (simp [*, errW_none, errW_some] <;> rfl), zB⟩
 · replace c4 := Bool.eq_false_iff.mpr c4
   subst c4
   have H1 : (some false) = some r := by rw [if_neg (show ¬ (false = true) by decide)] at H; exact H
   clear H
   have H := H1
   clear H1
   obtain rfl := Option.some.inj H
   go_enter Try.func30, Try.ntmps30
   go_wp2_with (first | ((with_reducible refine gate_dst (N := 2) rfl ?_); refine zb (w := w) 2 #[.slice A0_0 l0_0.length c0_0, .slice A0_1 l0_1.length c0_1] 46 zB ?_; clear HB; intro gb127 w19 HB BK127 GW127; have GE127 := GW127) | ((with_reducible refine gate_dst (N := 3) rfl ?_); refine ze 3 #[.slice A1_0 l1_0.length c1_0, .slice A1_1 l1_1.length c1_1] 46 ?_; intro gb128 hg w20 hbox hb; have BK128 := zM (hbox); have GW128 := zM ((by rw [hg]; exact (below_size zB) : w.heap.size ≤ gb128)); have GE128 := zM ((by rw [hg]; exact (below_size zB) : w.heap.size ≤ gb128)); replace HB := zM (below_step zB hb); have NB127_128 := zM ((by rw [hg]; exact Nat.ne_of_lt (blk_lt (g := gb127) (o := .cells #[.slice A0_0 l0_0.length c0_0, .slice A0_1 l0_1.length c0_1] 46 (0, 0)) (zK BK127.out)) : gb127 ≠ gb128)); have NB128_127 := zM ((by rw [hg]; exact Nat.ne_of_gt (blk_lt (g := gb127) (o := .cells #[.slice A0_0 l0_0.length c0_0, .slice A0_1 l0_1.length c0_1] 46 (0, 0)) (zK BK127.out)) : gb128 ≠ gb127)); replace BK127 := zM (blk_below (g := gb127) (o := .cells #[.slice A0_0 l0_0.length c0_0, .slice A0_1 l0_1.length c0_1] 46 (0, 0)) (zK BK127.out) hb); clear hb hbox hg; have hnb21 := NB127_128.out; have hnc21 := NB128_127.out; have hcz22_0 := zy BK127 0; have hcz22_1 := zy BK127 1; have hfz22_0 := blk_frozen BK127.out 0; have hfz22_1 := blk_frozen BK127.out 1; have hcz23_0 := zy BK128 0; have hcz23_1 := zy BK128 1; have hfz23_0 := blk_frozen BK128.out 0; have hfz23_1 := blk_frozen BK128.out 1) | ((with_reducible refine gate_callee (f := 17) rfl ?_); refine zc 9 Try.func17 #[.slice A0_0 l0_0.length c0_0, .slice A1_0 l1_0.length c1_0] ?_; (with_reducible refine (laws_eqIntSS.calls k _ _ l0_0 _ _ l1_0 false _ ?side1 ?side2 ?side3 ?side4 A3.out).mono ?_); (case side1 => exact zC (Kd.C_below HR0_0.out HB.out)); (case side2 => exact HC0_0.out); (case side3 => exact zC (Kd.C_below HR1_0.out HB.out)); (case side4 => exact HC1_0.out); rintro e w' ⟨rfl, ⟨nd, rfl⟩⟩; refine ⟨_, rfl, ?_⟩))
   go_ret
   exact ⟨by first | rfl | (simp [errW_none, errW_some] <;> rfl) | (simp [*, errW_none, errW_some] <;> rfl), zB⟩

/-! ### laws_markGraph: function 18 -/
def laws_markGraph.f (a0_0 : Int) (l0_1 : List (S70)) (a1 : Int) : Option (Int × (List (S70))) := (laws_markIntA2S.f l0_1 a1).bind fun bt132 => (some (bt132.1, bt132.2))
set_option maxHeartbeats 8000000 in
set_option maxRecDepth 100000 in
theorem laws_markGraph.calls (a0_0 : Int) (P0_1_ : Nat → Prop) (u9000_ : Value) (l0_1 : List (S70)) (a1 : Int) (r1 : Int) (r2 : List (S70)) (w0 w : World) (hB : Below w0.heap.size w0 w) (ho0_1 : Kd.R k70 70 w w0.heap.size P0_1_ u9000_ l0_1) (h : laws_markGraph.f a0_0 l0_1 a1 = some (r1, r2)) :
 Calls Try.prog 18 #[.agg #[.int .i64 a0_0, u9000_], .int .i64 a1] w fun e w' => e = .returned (.int .i64 r1) ∧ Kd.R k70 70 w' w0.heap.size (fun k_ => (P0_1_ k_ ∨ w.heap.size ≤ k_)) u9000_ r2 ∧ Below w0.heap.size w0 w' ∧ Kept w w' (fun k_ => P0_1_ k_) := by
 have hu28 := Try.underlying28
 have HO0_1 := zM (show Kd.R k70 70 w w0.heap.size (fun k_ => (P0_1_ k_ ∨ w.heap.size ≤ k_)) u9000_ l0_1 from Kd.R_mono ho0_1 (fun k_ hk => (.inl hk)))
 have HK := zM (Kept.refl w (fun k_ => P0_1_ k_))
 have HW0 := Aside0.mk hB.size
 have HB := Aside0.mk hB
 clear hB
 have H : ((laws_markIntA2S.f l0_1 a1).bind fun bt132 => (some (bt132.1, bt132.2))) = some (r1, r2) := h
 clear h
 replace H := Option.bind_eq_some_iff.mp H
 obtain ⟨⟨t132, t133⟩, A30, H⟩ := H
 replace H : (some (t132, t133)) = some (r1, r2) := H
 have A3 := Aside0.mk A30
 clear A30
 simp only [Option.some.injEq, Prod.mk.injEq] at H
 obtain ⟨rfl, rfl⟩ := H
 obtain ⟨Ao4, co4, eo4⟩ := Kd.R_slice HO0_1.out
 subst eo4
 go_enter Try.func18, Try.ntmps18
 go_wp2_with (first | ((with_reducible refine gate_dst (N := 2) rfl ?_); refine ze 2 #[.int .i64 a0_0, .slice Ao4 l0_1.length co4] 28 ?_; intro gb131 hg w5 hbox hb; replace HO0_1 := zM (Kd.R_below (zR HO0_1.out) hb); have BK131 := zM (hbox); have GW131 := zM ((by rw [hg]; exact (by first | exact HK.out.1 | exact (show Kept w _ (fun k_ => P0_1_ k_) from by repeat (first | (with_reducible first | exact HK.out | apply Kept.alloc | apply Kept.drewN | apply Kept.drew) | exact HK.out)).1) : w.heap.size ≤ gb131)); replace HK := zM (Kept.below (S := (fun k_ => P0_1_ k_)) (by repeat (first | (with_reducible first | exact HK.out | apply Kept.alloc | apply Kept.drewN | apply Kept.drew) | exact HK.out)) hb); have GE131 := zM ((by rw [hg]; exact (below_size zB) : w0.heap.size ≤ gb131)); replace HB := zM (below_step zB hb); clear hb hbox hg; have hcz6_0 := zy BK131 0; have hcz6_1 := zy BK131 1; have hfz6_0 := blk_frozen BK131.out 0; have hfz6_1 := blk_frozen BK131.out 1) | ((with_reducible refine gate_callee (f := 47) rfl ?_); refine zc 8 Try.func47 #[.slice Ao4 l0_1.length co4, .int .i64 a1] ?_; (with_reducible refine (laws_markIntA2S.calls (fun k_ => some k_ = (.slice Ao4 l0_1.length co4 : Value).ownBlock) (.slice Ao4 l0_1.length co4) l0_1 a1 t132 t133 w0 _ ?side1 ?side2 A3.out).mono ?_); (case side1 => repeat (first | (with_reducible first | exact HB.out | apply below_alloc | apply pw_below_drewN | apply below_drew1 | refine below_set ?_ GE131.out) | exact HB.out)); (case side2 => exact Kd.R_tight rfl HO0_1.out); rintro e w7 ⟨rfl, hy0, hb, hkp⟩; refine ⟨_, rfl, ?_⟩; replace BK131 := zM (blk_kept (zK BK131.out) hkp (fun hs_ => (fun e_ => (Kd.R_ne HO0_1.out BK131.out (by decide)) e_) hs_)); replace HK := zM (Kept.then_ (S := (fun k_ => P0_1_ k_)) (by repeat (first | (with_reducible first | exact HK.out | apply Kept.alloc | apply Kept.drewN | apply Kept.drew | refine Kept.setCell ?_ (.inr GW131.out) _) | exact HK.out)) hkp (fun k_ hs_ => (fun e_ => (HO0_1.out.1 k_ e_.symm)) hs_)); replace HO0_1 := zM (Kd.R_reok rfl hy0 (fun k_ e_ => HO0_1.out.1 k_ e_)); replace HB := zM (hb); (try clear hb); (try clear hkp); (try clear hy0)))
 go_ret
 exact ⟨by first | rfl | (simp [errW_none, errW_some] <;> rfl) | (simp [*, errW_none, errW_some] <;> rfl), by (with_reducible repeat (first | apply Kd.R_alloc | apply Kd.R_drewN | apply Kd.R_drew)); exact HO0_1.out, by repeat (first | (with_reducible first | exact HB.out | apply below_alloc | apply pw_below_drewN | apply below_drew1 | refine below_set ?_ GE131.out) | exact HB.out), by repeat (first | (with_reducible first | exact HK.out | apply Kept.alloc | apply Kept.drewN | apply Kept.drew | refine Kept.setCell ?_ (.inr GW131.out) _) | exact HK.out)⟩

end Go.Proofs.Ytadjbmcfgjmhkaa.P
