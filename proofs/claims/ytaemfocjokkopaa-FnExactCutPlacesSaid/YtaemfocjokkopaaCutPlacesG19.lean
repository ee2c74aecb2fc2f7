/- The contract of the laws' markIntSS: rising numbers are written into all rows of a list of lists that the caller owns; for every world. -/
import Derived.Test.YtaemfocjokkopaaCutPlacesG5
import Derived.Test.YtaemfocjokkopaaCutPlacesG18
import Derived.Handy
import Derived.Test.YtaemfocjokkopaaCutPlacesG15
import Derived.ProofKit
import Derived.OpenShut
import Derived.Deep.Matrix
import Derived.Lib.SmallJoins
import Derived.Test.YtaemfocjokkopaaCutPlacesG6
import Derived.Test.YtaemfocjokkopaaCutPlacesG7
namespace Go.Proofs.Ytaemfocjokkopaa.P
open Go.RowKit Go.Proofs.YtaemfocjokkopaaW.PrintWords Go.Proofs.YtaemfocjokkopaaW.PrintLast Go.Proofs.YtaemfocjokkopaaW.PrintMore
set_option linter.unusedVariables false
set_option linter.unusedSimpArgs false

def seqS : Nat → Int → List Int
  | 0, _ => []
  | n + 1, k => k :: seqS n (wrap64 (k + 1))
def endS : Nat → Int → Int
  | 0, k => k
  | n + 1, k => endS n (wrap64 (k + 1))
theorem markS_loop (d : Nat) : ∀ (done rest : List Int) (c : Int), rest.length = d → done.length + d ≤ 9223372036854775807 →
    ∃ k, laws_markIntS.l0 k (done ++ rest) c (done.length : Int) = some (endS d c, done ++ seqS d c) := by
  induction d with
  | zero =>
    intro done rest c h0 h1
    have : rest = [] := List.eq_nil_of_length_eq_zero h0
    subst this
    refine ⟨1, ?_⟩
    rw [laws_markIntS.l0, if_neg (by simp)]
    rfl
  | succ d ih =>
    intro done rest c h0 h1
    obtain ⟨x, t, rfl⟩ : ∃ x t, rest = x :: t := by
      cases rest with
      | nil => simp at h0
      | cons x t => exact ⟨x, t, rfl⟩
    have h2 : t.length = d := by simpa using h0
    obtain ⟨k, hk⟩ := ih (done ++ [c]) t (wrap64 (c + 1)) h2 (by rw [List.length_append, List.length_singleton]; omega)
    refine ⟨k + 1, ?_⟩
    have e : (done ++ x :: t).set ((done.length : Int)).toNat c = (done ++ [c]) ++ t := by
      rw [Int.toNat_natCast]
      simp
    have hw : wrap64 ((done.length : Int) + 1) = ((done ++ [c]).length : Int) := by
      rw [List.length_append, List.length_singleton]
      unfold wrap64
      omega
    rw [laws_markIntS.l0, if_pos (by simp; omega), if_pos (by omega), e, hw, hk]
    simp only [seqS, endS, List.append_assoc, List.singleton_append]
theorem markS_some (l : List Int) (c : Int) (hl : l.length ≤ 9223372036854775807) : ∃ k, laws_markIntS.f k l c = some (endS l.length c, seqS l.length c) := by
  obtain ⟨k, hk⟩ := markS_loop l.length [] l c rfl (by simpa using hl)
  exact ⟨k, by unfold laws_markIntS.f; simpa only [List.nil_append, List.length_nil, Int.natCast_zero] using hk⟩
def markSS : List (List Int) → Int → Int × List (List Int)
  | [], k => (k, [])
  | l :: t, k => ((markSS t (endS l.length k)).1, seqS l.length k :: (markSS t (endS l.length k)).2)
def laws_markIntSS.f (l0 : List (List Int)) (a1 : Int) : Option (Int × List (List Int)) := some (markSS l0 a1)
theorem set_midS {α : Type} (done : List α) (l : List α) (m : Nat) (hd : done.length = m) (hm : m < l.length) (x : α) : (done ++ l.drop m).set m x = (done ++ [x]) ++ l.drop (m + 1) := by
  subst hd
  rw [List.drop_eq_getElem_cons hm, List.set_append_right _ _ (Nat.le_refl _), Nat.sub_self, List.set_cons_zero, List.append_assoc, List.singleton_append]
set_option maxRecDepth 100000 in
set_option maxHeartbeats 2000000 in
theorem laws_markIntSS.calls (P0_ : Nat → Prop) (u9000_ : Value) (l0 : List (List Int)) (a1 : Int) (r1 : Int) (r2 : List (List Int)) (w0 w : World) (hB : Below w0.heap.size w0 w) (ho0 : Kd.S (Kd.slice 3 (Kd.int .i64)) 27 w w0.heap.size P0_ u9000_ l0) (h : laws_markIntSS.f l0 a1 = some (r1, r2)) :
    Calls Try.prog 27 #[u9000_, .int .i64 a1] w fun e w' => e = .returned (.int .i64 r1) ∧ Kd.S (Kd.slice 3 (Kd.int .i64)) 27 w' w0.heap.size (fun k_ => (P0_ k_ ∨ w.heap.size ≤ k_)) u9000_ r2 ∧ Below w0.heap.size w0 w' ∧ Kept w w' (fun k_ => P0_ k_) := by
  have HO := Aside0.mk (show Kd.S (Kd.slice 3 (Kd.int .i64)) 27 w w0.heap.size (fun k_ => (P0_ k_ ∨ w.heap.size ≤ k_)) u9000_ l0 from Kd.S_mono ho0 (fun k_ hk => (.inl hk)))
  unfold laws_markIntSS.f at h
  have H' := Aside0.mk (Option.some.inj h)
  obtain ⟨A, c, e0⟩ := Kd.S_slice ho0
  have HL := Aside0.mk (show l0.length ≤ 9223372036854775807 by
    obtain ⟨A', c', _, _, hc⟩ := Kd.S_reads ho0
    exact hc.2.1)
  have HB0 := Aside0.mk hB
  clear h hB ho0
  subst e0
  go_enter Try.func27, Try.ntmps27
  go_wp2
  go_loopg [5, 1, 6] (l0.length + 1) (fun kq v5 v1 v6 w' => ∃ (m : Nat) (kk : Int) (done : List (List Int)), v5 = .int .i64 m ∧ v1 = .int .i64 kk ∧ Aside0 (m ≤ l0.length) ∧ Aside0 (kq = l0.length - m + 1) ∧ Aside0 (done.length = m) ∧ Aside0 ((markSS (l0.drop m) kk).1 = r1 ∧ done ++ (markSS (l0.drop m) kk).2 = r2) ∧ Aside0 (Kd.S (Kd.slice 3 (Kd.int .i64)) 27 w' w0.heap.size (fun k_ => (P0_ k_ ∨ w.heap.size ≤ k_)) (.slice A l0.length c) (done ++ l0.drop m)) ∧ Aside0 (Below w0.heap.size w0 w') ∧ Aside0 (Kept w w' (fun k_ => P0_ k_)))
  case atStart => exact ⟨0, a1, [], rfl, rfl, ⟨Nat.zero_le _⟩, ⟨by omega⟩, ⟨rfl⟩, ⟨by rw [List.drop_zero, H'.out]; exact ⟨rfl, rfl⟩⟩, ⟨by rw [List.drop_zero]; exact HO.out⟩, HB0, ⟨Kept.refl _ _⟩⟩
  case round =>
    clear H' HO HB0
    obtain ⟨m, kk, done, rfl, rfl, HM, HK1, HD, HA, HO, HB, HK⟩ := hrel
    have HN := Aside0.mk (show (done ++ l0.drop m).length = l0.length by rw [List.length_append, List.length_drop, HD.out]; have := HM.out; omega)
    by_cases c1 : m < l0.length
    · have q1 : (m : Int) < (l0.length : Int) := by omega
      obtain ⟨g, cap, eg, gb, gl, HG⟩ := Kd.S_form HO.out (by rw [HN.out]; omega)
      rw [HN.out] at eg
      injection eg with eA _ ec
      subst eA; subst ec
      obtain ⟨oki, cs, hcl, hM, hcc, hoki, HH⟩ := Kd.S_lend HO.out ([] : List Int) (m : Int) (by omega) q1
      obtain ⟨v, rfl, hR⟩ := hM
      have hrow : (done ++ l0.drop m).getD (m : Int).toNat [] = l0[m] := by
        rw [Int.toNat_natCast, List.getD_eq_getElem?_getD, List.getElem?_append_right (by rw [HD.out]; exact Nat.le_refl _), HD.out, Nat.sub_self, List.getElem?_drop, Nat.add_zero, List.getElem?_eq_getElem c1, Option.getD_some]
      rw [hrow] at hR
      have hx0 := hcc 0 _ rfl
      rw [Int.toNat_natCast, show (Kd.slice 3 (Kd.int .i64)).sz = 1 from rfl, Nat.mul_one, Nat.add_zero] at hx0
      have hll : (l0[m]).length ≤ 9223372036854775807 := by
        obtain ⟨A', c', _, _, hc⟩ := Kd.R_reads hR
        exact hc.2.1
      obtain ⟨kf, hf⟩ := markS_some l0[m] kk hll
      have HF := Aside0.mk hf
      have HRo := Aside0.mk hR
      have HHo := Aside0.mk HH
      have HOk := Aside0.mk hoki
      have HE := Aside0.mk (set_midS done l0 m HD.out c1 (seqS (l0[m]).length kk))
      have H2 : Aside0 ((markSS (l0.drop (m + 1)) (endS (l0[m]).length kk)).1 = r1 ∧ (done ++ [seqS (l0[m]).length kk]) ++ (markSS (l0.drop (m + 1)) (endS (l0[m]).length kk)).2 = r2) := ⟨by
        have e_ := HA.out
        rw [List.drop_eq_getElem_cons c1] at e_
        simp only [markSS] at e_
        rw [List.append_assoc, List.singleton_append]
        exact e_⟩
      obtain ⟨Av, cv, ev⟩ := Kd.R_slice hR
      subst ev
      generalize hk2 : endS (l0[m]).length kk = k2 at HF H2
      generalize hs2 : seqS (l0[m]).length kk = s2 at HF H2 HE
      generalize l0[m] = row at HF HRo hx0 HHo
      clear HA hcc hcl gl HG gb hR HH hoki hf hk2 hs2 hrow hll
      have c1b : decide ((m : Int) < (l0.length : Int)) = true := decide_eq_true q1
      have c1c : decide (m < l0.length) = true := decide_eq_true c1
      have p1 : (0 : Int) ≤ (m : Int) := by omega
      have hw1 : (m : Int) + 1 ≤ 9223372036854775807 := by have := HL.out; omega
      replace p1 := eq_true p1
      replace q1 := eq_true q1
      clear c1
      go_wp2_with (go_at_call 11; refine (laws_markIntS.calls kf oki _ row kk _ _ w0 wr HB.out HRo.out HF.out).mono ?_; rintro e w2 ⟨rfl, hy, hb, hkp⟩; have HS := Aside0.mk (Kd.H_back (Kd.H_kept HHo.out hkp (fun _ _ hn => hn)) (x' := s2) ⟨_, rfl, Kd.R_reok rfl hy (fun k_ e_ => HRo.out.1 k_ e_)⟩ (fun _ hk => hk)); have HB2 := Aside0.mk hb; have HK2 : Aside0 (Kept w w2 (fun k_ => P0_ k_)) := ⟨⟨Nat.le_trans HK.out.1 hkp.1, fun i hi hn => (hkp.2 i (Nat.lt_of_lt_of_le hi HK.out.1) (fun ho => (HOk.out i ho).1.elim hn (fun h3 => by omega))).trans (HK.out.2 i hi hn)⟩⟩; clear hy hb hkp)
      go_roundg (l0.length - m)
      case measure => have := HK1.out; have := HM.out; omega
      case rel => exact ⟨m + 1, _, done ++ [s2], by first | rfl | (simp; done) | go_num, rfl, ⟨by have := of_eq_true q1; omega⟩, ⟨by have := of_eq_true q1; omega⟩, ⟨by rw [List.length_append, HD.out]; rfl⟩, H2, ⟨by rw [← HE.out]; rw [← Int.toNat_natCast m]; exact HS.out⟩, HB2, HK2⟩
    · have q1 : ¬ (m : Int) < (l0.length : Int) := by omega
      have c1b : decide ((m : Int) < (l0.length : Int)) = false := decide_eq_false q1
      have c1c : decide (m < l0.length) = false := decide_eq_false c1
      have H3 : Aside0 (kk = r1 ∧ done ++ l0.drop m = r2) := ⟨by
        have e_ := HA.out
        rw [List.drop_eq_nil_of_le (show l0.length ≤ m by omega)] at e_ ⊢
        exact e_⟩
      clear HA c1 q1
      go_wp2
      go_ret
      exact ⟨by have e_ := H3.out.1; subst e_; rfl, by rw [← H3.out.2]; exact HO.out, HB.out, HK.out⟩
end Go.Proofs.Ytaemfocjokkopaa.P
namespace Go.Proofs.Ytaemfocjokkopaa.P
open Go.RowKit Go.Proofs.YtaemfocjokkopaaW.PrintWords Go.Proofs.YtaemfocjokkopaaW.PrintLast Go.Proofs.YtaemfocjokkopaaW.PrintMore
set_option linter.unusedVariables false
set_option linter.unusedSimpArgs false

def mark2 : List S54 → Int → Int × List S54
  | [], k => (k, [])
  | _ :: t, k => ((mark2 t (wrap64 (wrap64 (k + 1) + 1))).1, ⟨k, wrap64 (k + 1)⟩ :: (mark2 t (wrap64 (wrap64 (k + 1) + 1))).2)
def laws_markIntA2S.f (l0 : List S54) (a1 : Int) : Option (Int × (List S54)) := some (mark2 l0 a1)
/-- One pair is written. -/
theorem mark_step {W : World} {base g n cap : Nat} {ok : Nat → Prop} {xs : List S54} (h : Kd.R k54 54 W base ok (.slice (some ⟨g, 0, none⟩) n cap) xs) (m : Nat) (hm : m < n) (p q : Int) :
    Kd.R k54 54 ((W.setCell ⟨g, m * 2, none⟩ (.int .i64 p)).setCell ⟨g, m * 2 + 1, none⟩ (.int .i64 q)) base ok (.slice (some ⟨g, 0, none⟩) n cap) (xs.set m ⟨p, q⟩) ∧ W.grownBy ((W.setCell ⟨g, m * 2, none⟩ (.int .i64 p)).setCell ⟨g, m * 2 + 1, none⟩ (.int .i64 q)) (some g) := by
  obtain ⟨c, hcl, hM, hcc, hfz⟩ := Kd.R_elem h (z54) (m : Int) (by omega) (by omega)
  have hs := Kd.R_seg h (m : Int) (by omega) (by omega) (seg := [.int .i64 p, .int .i64 q]) (j := 0) hcl hcc (by show 0 + 2 ≤ 2; omega) (x' := (⟨p, q⟩ : S54)) (okp := fun k => ok k ∧ k ≠ g)
    (by rw [List.take_zero, List.nil_append, List.drop_eq_nil_of_le (by rw [hcl]; show 2 ≤ 0 + 2; omega), List.append_nil]; exact k54_mkM _ _ _ _) (fun k hk => hk)
  rw [Int.toNat_natCast, show k54.sz = 2 from rfl, Nat.add_zero] at hs
  exact hs
theorem set_mid {α : Type} (done : List α) (l : List α) (m : Nat) (hd : done.length = m) (hm : m < l.length) (x : α) : (done ++ l.drop m).set m x = (done ++ [x]) ++ l.drop (m + 1) := by
  subst hd
  rw [List.drop_eq_getElem_cons hm, List.set_append_right _ _ (Nat.le_refl _), Nat.sub_self, List.set_cons_zero, List.append_assoc, List.singleton_append]
set_option maxRecDepth 100000 in
set_option maxHeartbeats 2000000 in
theorem laws_markIntA2S.calls (P0_ : Nat → Prop) (u9000_ : Value) (l0 : List S54) (a1 : Int) (r1 : Int) (r2 : List S54) (w0 w : World) (hB : Below w0.heap.size w0 w) (ho0 : Kd.R k54 54 w w0.heap.size P0_ u9000_ l0) (h : laws_markIntA2S.f l0 a1 = some (r1, r2)) :
    Calls Try.prog 28 #[u9000_, .int .i64 a1] w fun e w' => e = .returned (.int .i64 r1) ∧ Kd.R k54 54 w' w0.heap.size (fun k_ => (P0_ k_ ∨ w.heap.size ≤ k_)) u9000_ r2 ∧ Below w0.heap.size w0 w' ∧ Kept w w' (fun k_ => P0_ k_) := by
  have HO := Aside0.mk (show Kd.R k54 54 w w0.heap.size (fun k_ => (P0_ k_ ∨ w.heap.size ≤ k_)) u9000_ l0 from Kd.R_mono ho0 (fun k_ hk => (.inl hk)))
  have HP := Aside0.mk ho0.1
  unfold laws_markIntA2S.f at h
  have H' := Aside0.mk (Option.some.inj h)
  obtain ⟨A, c, e0⟩ := Kd.R_slice ho0
  have HL := Aside0.mk (show l0.length ≤ 9223372036854775807 by
    obtain ⟨A', c', _, _, hc⟩ := Kd.R_reads ho0
    exact hc.2.1)
  have HB0 := Aside0.mk hB
  clear h hB ho0
  subst e0
  go_enter Try.func28, Try.ntmps28
  go_wp2
  go_loopg [5, 1, 6] (l0.length + 1) (fun kq v5 v1 v6 w' => ∃ (m : Nat) (kk : Int) (done : List S54), v5 = .int .i64 m ∧ v1 = .int .i64 kk ∧ Aside0 (m ≤ l0.length) ∧ Aside0 (kq = l0.length - m + 1) ∧ Aside0 (done.length = m) ∧ Aside0 ((mark2 (l0.drop m) kk).1 = r1 ∧ done ++ (mark2 (l0.drop m) kk).2 = r2) ∧ Aside0 (Kd.R k54 54 w' w0.heap.size (fun k_ => (P0_ k_ ∨ w.heap.size ≤ k_)) (.slice A l0.length c) (done ++ l0.drop m)) ∧ Aside0 (Below w0.heap.size w0 w') ∧ Aside0 (Kept w w' (fun k_ => P0_ k_)))
  case atStart => exact ⟨0, a1, [], rfl, rfl, ⟨Nat.zero_le _⟩, ⟨by omega⟩, ⟨rfl⟩, ⟨by rw [List.drop_zero, H'.out]; exact ⟨rfl, rfl⟩⟩, ⟨by rw [List.drop_zero]; exact HO.out⟩, HB0, ⟨Kept.refl _ _⟩⟩
  case round =>
    clear H' HO HB0
    obtain ⟨m, kk, done, rfl, rfl, HM, HK1, HD, HA, HO, HB, HK⟩ := hrel
    have HN := Aside0.mk (show (done ++ l0.drop m).length = l0.length by rw [List.length_append, List.length_drop, HD.out]; have := HM.out; omega)
    by_cases c1 : m < l0.length
    · have q1 : (m : Int) < (l0.length : Int) := by omega
      obtain ⟨g, cap, eg, gb, gl, HG⟩ := Kd.R_form HO.out (by rw [HN.out]; omega)
      rw [HN.out] at eg
      injection eg with eA _ ec
      subst eA; subst ec
      have GB := Aside0.mk gb
      have HPg := Aside0.mk (HP.out g rfl)
      obtain ⟨cs, hcl, hM, hcc, hfz⟩ := Kd.R_elem HO.out (z54) (m : Int) (by omega) q1
      obtain rfl := k54_openM hM
      have hx0 := hcc 0 _ rfl
      have hx1 := hcc 1 _ rfl
      have hf0 := hfz 0
      have hf1 := hfz 1
      rw [Int.toNat_natCast, show k54.sz = 2 from rfl] at hx0 hx1 hf0 hf1
      rw [Nat.add_zero] at hx0 hf0
      have HS := Aside0.mk (mark_step HO.out m c1 kk (wrap64 (kk + 1)))
      have hx1' : (wr.setCell ⟨g, m * 2, none⟩ (.int .i64 kk)).cell? ⟨g, m * 2 + 1, none⟩ = _ := (World.cell?_setCell_other wr _ _ _ (by simp)).trans hx1
      have HE := Aside0.mk (set_mid done l0 m HD.out c1 (⟨kk, wrap64 (kk + 1)⟩ : S54))
      have H2 : Aside0 ((mark2 (l0.drop (m + 1)) (wrap64 (wrap64 (kk + 1) + 1))).1 = r1 ∧ (done ++ [⟨kk, wrap64 (kk + 1)⟩]) ++ (mark2 (l0.drop (m + 1)) (wrap64 (wrap64 (kk + 1) + 1))).2 = r2) := ⟨by
        have e_ := HA.out
        rw [List.drop_eq_getElem_cons c1] at e_
        simp only [mark2] at e_
        rw [List.append_assoc, List.singleton_append]
        exact e_⟩
      clear HA hM hcc hfz hcl gl HG gb
      have c1b : decide ((m : Int) < (l0.length : Int)) = true := decide_eq_true q1
      have c1c : decide (m < l0.length) = true := decide_eq_true c1
      have p1 : (0 : Int) ≤ (m : Int) := by omega
      have hw1 : (m : Int) + 1 ≤ 9223372036854775807 := by have := HL.out; omega
      replace p1 := eq_true p1
      replace q1 := eq_true q1
      clear c1
      go_wp2
      refine wp_loop_rounds 3 ?_
      rw [rounds_succ]; go_wp2
      rw [rounds_succ]; go_wp2
      rw [rounds_succ]; go_wp2
      go_roundg (l0.length - m)
      case measure => have := HK1.out; have := HM.out; omega
      case rel => exact ⟨m + 1, _, done ++ [⟨kk, wrap64 (kk + 1)⟩], by first | rfl | (simp; done) | go_num, rfl, ⟨by have := of_eq_true q1; omega⟩, ⟨by have := of_eq_true q1; omega⟩, ⟨by rw [List.length_append, HD.out]; rfl⟩, H2, ⟨by rw [← HE.out]; exact HS.out.1⟩, ⟨pw_below_grown HB.out (some g) HB.out.size HS.out.2 (fun k_ e_ => by injection e_ with e_; subst e_; exact GB.out)⟩, ⟨Kept.of_grown HS.out.2 HK.out (fun k_ e_ => by injection e_ with e_; subst e_; exact .inl HPg.out)⟩⟩
    · have q1 : ¬ (m : Int) < (l0.length : Int) := by omega
      have c1b : decide ((m : Int) < (l0.length : Int)) = false := decide_eq_false q1
      have c1c : decide (m < l0.length) = false := decide_eq_false c1
      have H3 : Aside0 (kk = r1 ∧ done ++ l0.drop m = r2) := ⟨by
        have e_ := HA.out
        rw [List.drop_eq_nil_of_le (show l0.length ≤ m by omega)] at e_ ⊢
        exact e_⟩
      clear HA c1 q1
      go_wp2
      go_ret
      exact ⟨by have e_ := H3.out.1; subst e_; rfl, by rw [← H3.out.2]; exact HO.out, HB.out, HK.out⟩

end Go.Proofs.Ytaemfocjokkopaa.P
namespace Go.Proofs.Ytaemfocjokkopaa.P
open Go.RowKit Go.Proofs.YtaemfocjokkopaaW.PrintWords Go.Proofs.YtaemfocjokkopaaW.PrintLast Go.Proofs.YtaemfocjokkopaaW.PrintMore
set_option linter.unusedVariables false
set_option linter.unusedSimpArgs false

/-- What a row of rows leads to is none of a row of another type. -/
theorem S_off {W : World} {base : Nat} {ok : Nat → Prop} {u v : Value} {l : List (List Int)} (h : Kd.S (Kd.slice 3 (Kd.int .i64)) 27 W base ok u l) {base' : Nat} {ok' : Nat → Prop} {m : List S54} (h' : Kd.R k54 54 W base' ok' v m) :
    Kd.S (Kd.slice 3 (Kd.int .i64)) 27 W base (fun k => ok k ∧ some k ≠ v.ownBlock) u l := Kd.S_apart' h (Kd.R_typed h') (by decide)
set_option maxRecDepth 100000 in
set_option maxHeartbeats 2000000 in
theorem laws_markSpace.calls (P0_ P1_ : Nat → Prop) (u0 u1 : Value) (l0 : List (List Int)) (l1 : List S54) (a1 : Int) (w0 w : World) (hB : Below w0.heap.size w0 w) (ho0 : Kd.S (Kd.slice 3 (Kd.int .i64)) 27 w w0.heap.size P0_ u0 l0) (ho1 : Kd.R k54 54 w w0.heap.size P1_ u1 l1) :
    Calls Try.prog 10 #[.agg #[u0, u1], .int .i64 a1] w fun e w' => e = .returned (.int .i64 (mark2 l1 (markSS l0 a1).1).1) ∧ Kd.S (Kd.slice 3 (Kd.int .i64)) 27 w' w0.heap.size (fun k_ => (P0_ k_ ∨ w.heap.size ≤ k_)) u0 (markSS l0 a1).2 ∧ Kd.R k54 54 w' w0.heap.size (fun k_ => (P1_ k_ ∨ w.heap.size ≤ k_)) u1 (mark2 l1 (markSS l0 a1).1).2 ∧ Below w0.heap.size w0 w' ∧ Kept w w' (fun k_ => P0_ k_ ∨ P1_ k_) := by
  have HS0 := Aside0.mk (Kd.S_mono (Kd.S_bound (S_off ho0 ho1)) (fun k hk => (⟨hk.1.1, hk.1.2, hk.2.2.1⟩ : P0_ k ∧ some k ≠ u1.ownBlock ∧ k < w.heap.size)))
  have HR0 := Aside0.mk (Kd.R_mono (Kd.R_bound (Kd.R_tight2 rfl ho1)) (fun k hk => (⟨hk.1.1, hk.1.2, hk.2.2.1⟩ : some k = u1.ownBlock ∧ P1_ k ∧ k < w.heap.size)))
  have HB := Aside0.mk hB
  clear ho0 ho1 hB
  obtain ⟨A0, c0, e0⟩ := Kd.S_slice HS0.out
  obtain ⟨A1, c1, e1⟩ := Kd.R_slice HR0.out
  subst e0
  subst e1
  generalize hu1 : (Value.slice A1 l1.length c1).ownBlock = b1 at HS0 HR0
  have HU := Aside0.mk hu1
  clear hu1
  generalize hm : markSS l0 a1 = M
  obtain ⟨k1, m0⟩ := M
  have HM := Aside0.mk hm
  clear hm
  go_enter Try.func10, Try.ntmps10
  go_wp2_with (first
    | ((with_reducible refine gate_dst (N := 2) rfl ?_); refine ze 2 #[.slice A0 l0.length c0, .slice A1 l1.length c1] 30 ?_; intro gb hg w5 hbox hb; have HB1 := Aside0.mk (below_step HB.out hb); have HS1 := Aside0.mk (Kd.S_below HS0.out hb); have HR1 := Aside0.mk (Kd.R_below HR0.out hb); have HK1 := Aside0.mk hb; have BK := Aside0.mk hbox; have GE := Aside0.mk hg; clear hb hbox hg HB HS0 HR0; have hc0 := zy BK 0; have hc1 := zy BK 1; have hf0 := blk_frozen BK.out 0; have hf1 := blk_frozen BK.out 1)
    | (go_at_call 27; refine (laws_markIntSS.calls _ _ l0 a1 k1 m0 w0 w5 HB1.out HS1.out (by unfold laws_markIntSS.f; rw [HM.out])).mono ?_; rintro e w6 ⟨rfl, hy, hb6, hkp6⟩; have HB2 := Aside0.mk hb6; have HS2 := Aside0.mk hy; have HR2 := Aside0.mk (Kd.R_kept HR1.out hkp6 (fun k hk hs => hs.2.1 hk.1)); have HK2 := Aside0.mk hkp6; have BK2 := Aside0.mk (blk_kept BK.out hkp6 (fun hs => by have := hs.2.2; have := GE.out; omega)); clear hy hb6 hkp6 hc0 hc1 hf0 hf1; have hc0 := zy BK2 0; have hc1 := zy BK2 1; have hf0 := blk_frozen BK2.out 0; have hf1 := blk_frozen BK2.out 1)
    | (go_at_call 28; refine (laws_markIntA2S.calls _ _ l1 k1 _ _ w0 w6 HB2.out HR2.out rfl).mono ?_; rintro e w7 ⟨rfl, hy, hb7, hkp7⟩; have HB3 := Aside0.mk hb7; have HR3 := Aside0.mk hy; have HS3 := Aside0.mk (Kd.S_kept HS2.out hkp7 (fun k hk hs => hk.elim (fun h => h.2.1 hs.1) (fun h => by have := hs.2.2; have := HK1.out.size; omega))); have HK3 := Aside0.mk hkp7; clear hy hb7 hkp7))
  go_ret
  refine ⟨rfl, Kd.S_mono HS3.out (fun k hk => hk.elim (fun h => .inl h.1) (fun h => .inr (Nat.le_trans HK1.out.size h))), Kd.R_mono HR3.out (fun k hk => hk.elim (fun h => .inl h.2.1) (fun h => .inr (Nat.le_trans (Nat.le_trans HK1.out.size HK2.out.1) h))), HB3.out, Nat.le_trans (Nat.le_trans HK1.out.size HK2.out.1) HK3.out.1, fun i hi hn => ?_⟩
  have h1 := HK1.out.block i hi
  have h5 : i < w5.heap.size := Nat.lt_of_lt_of_le hi HK1.out.size
  have h2 := HK2.out.2 i h5 (fun hs => hn (.inl hs.1))
  have h3 := HK3.out.2 i (Nat.lt_of_lt_of_le h5 HK2.out.1) (fun hs => hn (.inr hs.2.1))
  exact h3.trans (h2.trans h1)
/-- The same, with the result under names. -/
def laws_markSpace.f (l0 : List (List Int)) (l1 : List S54) (a1 : Int) : Option (Int × List (List Int) × List S54) := some ((mark2 l1 (markSS l0 a1).1).1, (markSS l0 a1).2, (mark2 l1 (markSS l0 a1).1).2)
theorem laws_markSpace.callsf (P0_ P1_ : Nat → Prop) (u0 u1 : Value) (l0 : List (List Int)) (l1 : List S54) (a1 : Int) (r1 : Int) (r2 : List (List Int)) (r3 : List S54) (w0 w : World) (hB : Below w0.heap.size w0 w) (ho0 : Kd.S (Kd.slice 3 (Kd.int .i64)) 27 w w0.heap.size P0_ u0 l0) (ho1 : Kd.R k54 54 w w0.heap.size P1_ u1 l1) (h : laws_markSpace.f l0 l1 a1 = some (r1, r2, r3)) :
    Calls Try.prog 10 #[.agg #[u0, u1], .int .i64 a1] w fun e w' => e = .returned (.int .i64 r1) ∧ Kd.S (Kd.slice 3 (Kd.int .i64)) 27 w' w0.heap.size (fun k_ => (P0_ k_ ∨ w.heap.size ≤ k_)) u0 r2 ∧ Kd.R k54 54 w' w0.heap.size (fun k_ => (P1_ k_ ∨ w.heap.size ≤ k_)) u1 r3 ∧ Below w0.heap.size w0 w' ∧ Kept w w' (fun k_ => P0_ k_ ∨ P1_ k_) := by
  have h' := Option.some.inj h
  injection h' with h1 h2
  injection h2 with h2 h3
  subst h1; subst h2; subst h3
  exact laws_markSpace.calls P0_ P1_ u0 u1 l0 l1 a1 w0 w hB ho0 ho1
end Go.Proofs.Ytaemfocjokkopaa.P
namespace Go.Proofs.Ytaemfocjokkopaa.P
open Go.RowKit Go.Proofs.YtaemfocjokkopaaW.PrintWords Go.Proofs.YtaemfocjokkopaaW.PrintLast Go.Proofs.YtaemfocjokkopaaW.PrintMore
attribute [local go_sem] max2_int min2_int max_two min_two max_three min_three max_four min_four   -- for this text's walks alone
set_option linter.unusedVariables false
set_option linter.unusedSimpArgs false

/-! ### laws_heldIntS: function 12 -/
def laws_heldIntS.l0 : Nat → List Int → Int → Int → Option (Int)
 | 0, _, _, _ => none
 | k + 1, x0, x1, x5 => if x5 < (x0.length : Int) then (if 0 ≤ x5 then (if (rd x0 x5) = x1 then (laws_heldIntS.l0 k x0 (wrap64 (x1 + 1)) (wrap64 (x5 + 1))) else (some (-1))) else (none)) else (some x1)
def laws_heldIntS.f (k : Nat) (l0 : List Int) (a1 : Int) : Option (Int) := laws_heldIntS.l0 k l0 a1 0
set_option maxHeartbeats 8000000 in
set_option maxRecDepth 100000 in
theorem laws_heldIntS.calls (k : Nat) (A0 : Option Addr) (c0 : Nat) (l0 : List Int) (a1 : Int) (r : Int) (w : World) (hr0 : Kd.C (Kd.int .i64) w A0 l0.length l0) (hc0 : l0.length ≤ c0) (h : laws_heldIntS.f k l0 a1 = some r) :
 Calls Try.prog 12 #[.slice A0 l0.length c0, .int .i64 a1] w fun e w' => e = .returned (.int .i64 r) ∧ Drawn0 w w' := by
 have HR0 := Aside0.mk hr0
 have HC0 := Aside0.mk hc0
 clear hr0 hc0
 have H : (laws_heldIntS.l0 k l0 a1 0) = some r := h
 clear h
 have H' := Aside0.mk H
 clear H
 go_enter Try.func12, Try.ntmps12
 go_wp2
 go_loopg [1, 5] k (fun kq v1 v5 w' => ∃ (x1_1 : Int) (x5_1 : Int), v1 = .int .i64 x1_1 ∧ v5 = .int .i64 x5_1 ∧ Aside0 (laws_heldIntS.l0 kq l0 x1_1 x5_1 = some r) ∧ Aside0 (kq ≤ k) ∧ Drawn0 w w')
 case atStart => exact ⟨(a1), (0), (by first | rfl | (simp; done) | (simp [*]; done)), (by first | rfl | (simp; done) | (simp [*]; done)), H', ⟨Nat.le_refl _⟩, by repeat (first | exact Drawn0.refl _ | apply Drawn0.step)⟩
 case round =>
  clear H'
  try clear c1
  try clear p2
  obtain ⟨x1_1, x5_1, rfl, rfl, HA, HK1, ⟨m1, rfl⟩⟩ := hrel
  cases gk with
  | zero => exact absurd HA.out (by simp [laws_heldIntS.l0])
  | succ k1 =>
   have H := HA.out
   clear HA
   simp only [laws_heldIntS.l0] at H
   by_cases c3 : x5_1 < (l0.length : Int)
   · rw [if_pos c3] at H
     have c3b0 := decide_eq_true c3
     clear c3
     by_cases c4 : 0 ≤ x5_1
     · rw [if_pos c4] at H
       have c4b0 := decide_eq_true c4
       clear c4
       by_cases c5 : (rd l0 x5_1) = x1_1
       · rw [if_pos c5] at H
         have c5b0 : ((rd l0 x5_1) == x1_1) = true := beq_iff_eq.mpr c5
         have c5b1 : ((rd l0 x5_1) != x1_1) = false := bne_eq_false_iff_eq.mpr c5
         clear c5
         have H' := Aside0.mk H
         clear H
         have p148 : 0 ≤ (x5_1 : Int) := of_decide_eq_true zA
         have q148 : x5_1 < (l0.length : Int) := of_decide_eq_true zA
         obtain ⟨ad148, e148, hx148_0⟩ := Kd.at_int HR0.out x5_1 p148 q148
         cases e148
         replace p148 := eq_true p148
         replace q148 := eq_true q148
         go_wp2
         go_roundg k1
         case measure => have := HK1.out; omega
         case rel => exact ⟨(wrap64 (x1_1 + 1)), (wrap64 (x5_1 + 1)), (by first | rfl | (simp; done) | (simp [*]; done)), (by first | rfl | (simp; done) | (simp [*]; done)), H', ⟨by have := HK1.out; omega⟩, by repeat (first | exact Drawn0.refl _ | apply Drawn0.step)⟩
       · rw [if_neg c5] at H
         have c5b0 : ((rd l0 x5_1) == x1_1) = false := beq_eq_false_iff_ne.mpr c5
         have c5b1 : ((rd l0 x5_1) != x1_1) = true := bne_iff_ne.mpr c5
         obtain rfl := Option.some.inj H
         have p148 : 0 ≤ (x5_1 : Int) := of_decide_eq_true zA
         have q148 : x5_1 < (l0.length : Int) := of_decide_eq_true zA
         obtain ⟨ad148, e148, hx148_0⟩ := Kd.at_int HR0.out x5_1 p148 q148
         cases e148
         replace p148 := eq_true p148
         replace q148 := eq_true q148
         go_wp2
         go_ret
         exact ⟨by first | rfl | (simp; done) | (simp [*]; done), by repeat (first | exact Drawn0.refl _ | apply Drawn0.step)⟩
     · rw [if_neg c4] at H
       exact absurd H (by simp)
   · rw [if_neg c3] at H
     have c3b0 : decide (x5_1 < (l0.length : Int)) = false := decide_eq_false c3
     clear c3
     obtain rfl := Option.some.inj H
     go_wp2
     go_ret
     exact ⟨by first | rfl | (simp; done) | (simp [*]; done), by repeat (first | exact Drawn0.refl _ | apply Drawn0.step)⟩

end Go.Proofs.Ytaemfocjokkopaa.P
namespace Go.Proofs.Ytaemfocjokkopaa.P
open Go.RowKit Go.Proofs.YtaemfocjokkopaaW.PrintWords Go.Proofs.YtaemfocjokkopaaW.PrintLast Go.Proofs.YtaemfocjokkopaaW.PrintMore
set_option linter.unusedVariables false
section
variable {α : Type} {d : Kd α} {e base : Nat} {ok S : Nat → Prop} {w W W1 : World} {v : Value} {xs : List α} {g : Nat} {o : Obj}
theorem uR (hB : Below w.heap.size w W) (h : d.R e W1 W.heap.size (fun _ => True) v xs) : Aside0 (d.R e W1 w.heap.size (fun k => W.heap.size ≤ k ∧ k < W1.heap.size) v xs) :=
  ⟨Kd.R_mono (Kd.R_lower (Kd.R_bound h) (below_size hB)) (fun k hk => ⟨hk.2.1, hk.2.2.1⟩)⟩
theorem uS (hB : Below w.heap.size w W) (h : Kd.S d e W1 W.heap.size (fun _ => True) v xs) : Aside0 (Kd.S d e W1 w.heap.size (fun k => W.heap.size ≤ k ∧ k < W1.heap.size) v xs) :=
  ⟨Kd.S_mono (Kd.S_lower (Kd.S_bound h) (below_size hB)) (fun k hk => ⟨hk.2.1, hk.2.2.1⟩)⟩
theorem uRb (h : Aside0 (d.R e W base ok v xs)) (hb : Below W.heap.size W W1) : Aside0 (d.R e W1 base ok v xs) := ⟨Kd.R_below h.out hb⟩
theorem uSb (h : Aside0 (Kd.S d e W base ok v xs)) (hb : Below W.heap.size W W1) : Aside0 (Kd.S d e W1 base ok v xs) := ⟨Kd.S_below h.out hb⟩
theorem uKb (h : Aside0 (W.heap[g]? = some o)) (hb : Below W.heap.size W W1) : Aside0 (W1.heap[g]? = some o) := ⟨blk_below h.out hb⟩
theorem uRk (h : Aside0 (d.R e W base ok v xs)) (hk : Kept W W1 S) (hne : ∀ k, ok k → ¬ S k) : Aside0 (d.R e W1 base ok v xs) := ⟨Kd.R_kept h.out hk hne⟩
theorem uSk (h : Aside0 (Kd.S d e W base ok v xs)) (hk : Kept W W1 S) (hne : ∀ k, ok k → ¬ S k) : Aside0 (Kd.S d e W1 base ok v xs) := ⟨Kd.S_kept h.out hk hne⟩
theorem uKk (h : Aside0 (W.heap[g]? = some o)) (hk : Kept W W1 S) (hne : ¬ S g) : Aside0 (W1.heap[g]? = some o) := ⟨blk_kept h.out hk hne⟩
/-- A struct of two cells is stored into the call's own block. -/
theorem uBox {P : Program} {f : FuncId} {args : Array Value} {Q : Ending → World → Prop} {t : TypeId} {x y a b : Value} (hb : Aside0 (W.heap[g]? = some (.cells #[x, y] t (0, 0)))) (hB : Aside0 (Below w.heap.size w W)) (hg : w.heap.size ≤ g)
    (h : ∀ W', Aside0 (W'.heap[g]? = some (.cells #[a, b] t (0, 0))) → Kept W W' (fun k => k = g) → Aside0 (Below w.heap.size w W') → Calls P f args W' Q) : Calls P f args ((W.setCell ⟨g, 0, none⟩ a).setCell ⟨g, 1, none⟩ b) Q :=
  h _ ⟨blk_put (cs := #[a, y]) (blk_put (cs := #[x, y]) hb.out 0 a rfl) 1 b rfl⟩ (Kept.setCell (Kept.setCell (Kept.refl W (fun k => k = g)) (p := ⟨g, 0, none⟩) (.inl rfl) a) (p := ⟨g, 1, none⟩) (.inl rfl) b) ⟨below_set (below_set hB.out hg) hg⟩
theorem uArgs {P : Program} {f : FuncId} {args args' : Array Value} {Q : Ending → World → Prop} (h : args = args') (k : Calls P f args' W Q) : Calls P f args W Q := h ▸ k
end
end Go.Proofs.Ytaemfocjokkopaa.P
namespace Go.Proofs.Ytaemfocjokkopaa.P
open Go.RowKit Go.Proofs.YtaemfocjokkopaaW.PrintWords Go.Proofs.YtaemfocjokkopaaW.PrintLast Go.Proofs.YtaemfocjokkopaaW.PrintMore
set_option linter.unusedVariables false
set_option linter.unusedSimpArgs false
set_option maxRecDepth 100000 in
set_option maxHeartbeats 4000000 in
theorem laws_FnExactCutPlaces.exit0 (A0_0 : Option Addr) (ca0_0 : Nat) (l0_0 : List (List Int)) (A0_1 : Option Addr) (ca0_1 : Nat) (l0_1 : List (S54)) (k0 : Nat) (t0 : Int) (w : World) (hr0_0 : Kd.C (Kd.slice 3 (Kd.int .i64)) w A0_0 l0_0.length l0_0) (hc0_0 : l0_0.length ≤ ca0_0) (hr0_1 : Kd.C k54 w A0_1 l0_1.length l0_1) (hc0_1 : l0_1.length ≤ ca0_1) (c0 : t0 < 0) (h0 : laws_szSpace.f k0 l0_0 l0_1 1048576 = some t0) :
    Calls Try.prog 3 #[.agg #[.slice A0_0 l0_0.length ca0_0, .slice A0_1 l0_1.length ca0_1]] w fun e w' => e = .returned (.bool true) ∧ Below w.heap.size w w' := by
  have hu25 := Try.underlying25
  have hu30 := Try.underlying30
  have HR0_0 := zM hr0_0; clear hr0_0
  have HC0_0 := zM hc0_0; clear hc0_0
  have HR0_1 := zM hr0_1; clear hr0_1
  have HC0_1 := zM hc0_1; clear hc0_1
  have HB := zM (Below.refl w.heap.size w)
  have H0 := zM h0; clear h0
  have c0b : decide (t0 < 0) = true := decide_eq_true c0
  clear c0
  go_enter Try.func3, Try.ntmps3
  go_wp2_with (first
    | ((with_reducible refine gate_dst (N := 1) rfl ?_); refine ze 1 #[.slice A0_0 l0_0.length ca0_0, .slice A0_1 l0_1.length ca0_1] 25 ?_; intro gb1 hg w1 hbox hb; have HG1 := zM hg; have HW1 := zM (show w.heap.size ≤ gb1 by rw [hg]; exact below_size HB.out); have HL1 := zM (blk_lt hbox); clear hg; have HS1 := zM hb.size; replace HB := zM (below_step HB.out hb); have BK1 := zM hbox; clear hbox hb; have hc1_0 := zy BK1 0; have hf1_0 := blk_frozen BK1.out 0; have hc1_1 := zy BK1 1; have hf1_1 := blk_frozen BK1.out 1)
    | (have hst_ : Aside0 (Below w.heap.size w w1) := HB; clear hst_; go_at_call 4; refine (laws_szSpace.calls k0 _ _ l0_0 _ _ l0_1 1048576 t0 _ ?side1 ?side2 ?side3 ?side4 H0.out).mono ?_; (case side1 => exact zC (Kd.C_below HR0_0.out HB.out)); (case side2 => exact HC0_0.out); (case side3 => exact zC (Kd.C_below HR0_1.out HB.out)); (case side4 => exact HC0_1.out); rintro e w2 ⟨rfl, hb⟩; replace BK1 := uKb BK1 hb; have HS2 := zM hb.size; replace HB := zM (below_step HB.out hb); clear hb; replace hc1_0 := zy BK1 0; replace hf1_0 := blk_frozen BK1.out 0; replace hc1_1 := zy BK1 1; replace hf1_1 := blk_frozen BK1.out 1))
  go_ret
  exact ⟨rfl, HB.out⟩
set_option maxRecDepth 100000 in
set_option maxHeartbeats 4000000 in
theorem laws_FnExactCutPlaces.walk (A0_0 : Option Addr) (ca0_0 : Nat) (l0_0 : List (List Int)) (A0_1 : Option Addr) (ca0_1 : Nat) (l0_1 : List (S54)) (k0 k1 k2 k3 k4 k5 k7 k8 : Nat) (t0 : Int) (q0 : List Int) (q1 : Bool) (kk0 : Int) (mk0_0 : List (List Int)) (mk0_1 : List (S54)) (kk1 : Int) (mk1_0 : List Int) (w : World) (hr0_0 : Kd.C (Kd.slice 3 (Kd.int .i64)) w A0_0 l0_0.length l0_0) (hc0_0 : l0_0.length ≤ ca0_0) (hr0_1 : Kd.C k54 w A0_1 l0_1.length l0_1) (hc0_1 : l0_1.length ≤ ca0_1) (c0 : ¬ (t0 < 0)) (h0 : laws_szSpace.f k0 l0_0 l0_1 1048576 = some t0) (h1 : laws_toSpace.f k1 l0_0 l0_1 = some (l0_0, l0_1)) (h2 : spec_CutPlaces.f k2 l0_0 l0_1 = some (q0, q1)) (h3 : impl_CutPlaces.f k3 l0_0 l0_1 = some (q0, q1)) (h4 : laws_eqIntS.f k4 q0 q0 = some true) (h5 : laws_eqSpace.f k5 l0_0 l0_1 l0_0 l0_1 = some true) (h6 : laws_markSpace.f l0_0 l0_1 1 = some (kk0, mk0_0, mk0_1)) (h7 : laws_markIntS.f k7 q0 1 = some (kk1, mk1_0)) (h8 : laws_heldIntS.f k8 mk1_0 1 = some kk1) (nkk0 : ¬ (kk0 < 0)) (nkk1 : ¬ (kk1 < 0)) :
    Calls Try.prog 3 #[.agg #[.slice A0_0 l0_0.length ca0_0, .slice A0_1 l0_1.length ca0_1]] w fun e w' => e = .returned (.bool true) ∧ Below w.heap.size w w' := by
  have hu25 := Try.underlying25
  have hu30 := Try.underlying30
  have HR0_0 := zM hr0_0; clear hr0_0
  have HC0_0 := zM hc0_0; clear hc0_0
  have HR0_1 := zM hr0_1; clear hr0_1
  have HC0_1 := zM hc0_1; clear hc0_1
  have HB := zM (Below.refl w.heap.size w)
  have H0 := zM h0; clear h0
  have H1 := zM h1; clear h1
  have H2 := zM h2; clear h2
  have H3 := zM h3; clear h3
  have H4 := zM h4; clear h4
  have H5 := zM h5; clear h5
  have H6 := zM h6; clear h6
  have H7 := zM h7; clear h7
  have H8 := zM h8; clear h8
  have c0b : decide (t0 < 0) = false := decide_eq_false c0
  clear c0
  have nkk0b : decide (kk0 < 0) = false := decide_eq_false nkk0
  clear nkk0
  have nkk1b : decide (kk1 < 0) = false := decide_eq_false nkk1
  clear nkk1
  go_enter Try.func3, Try.ntmps3
  go_upto_region 10 with (first
    | ((with_reducible refine gate_dst (N := 1) rfl ?_); refine ze 1 #[.slice A0_0 l0_0.length ca0_0, .slice A0_1 l0_1.length ca0_1] 25 ?_; intro gb1 hg w1 hbox hb; have HG1 := zM hg; have HW1 := zM (show w.heap.size ≤ gb1 by rw [hg]; exact below_size HB.out); have HL1 := zM (blk_lt hbox); clear hg; have HS1 := zM hb.size; replace HB := zM (below_step HB.out hb); have BK1 := zM hbox; clear hbox hb; have hc1_0 := zy BK1 0; have hf1_0 := blk_frozen BK1.out 0; have hc1_1 := zy BK1 1; have hf1_1 := blk_frozen BK1.out 1)
    | (have hst_ : Aside0 (Below w.heap.size w w1) := HB; clear hst_; go_at_call 4; refine (laws_szSpace.calls k0 _ _ l0_0 _ _ l0_1 1048576 t0 _ ?side1 ?side2 ?side3 ?side4 H0.out).mono ?_; (case side1 => exact zC (Kd.C_below HR0_0.out HB.out)); (case side2 => exact HC0_0.out); (case side3 => exact zC (Kd.C_below HR0_1.out HB.out)); (case side4 => exact HC0_1.out); rintro e w2 ⟨rfl, hb⟩; replace BK1 := uKb BK1 hb; have HS2 := zM hb.size; replace HB := zM (below_step HB.out hb); clear hb; replace hc1_0 := zy BK1 0; replace hf1_0 := blk_frozen BK1.out 0; replace hc1_1 := zy BK1 1; replace hf1_1 := blk_frozen BK1.out 1)
    | (have hst_ : Aside0 (Below w.heap.size w w2) := HB; clear hst_; go_at_call 6; refine (laws_toSpace.calls k1 _ _ l0_0 _ _ l0_1 l0_0 l0_1 _ ?side1 ?side2 ?side3 ?side4 H1.out).mono ?_; (case side1 => exact zC (Kd.C_below HR0_0.out HB.out)); (case side2 => exact HC0_0.out); (case side3 => exact zC (Kd.C_below HR0_1.out HB.out)); (case side4 => exact HC0_1.out); rintro e w3 ⟨v0_0, v0_1, rfl, ho0, ho1, hb⟩; replace BK1 := uKb BK1 hb; have HS3 := zM hb.size; have HO0_0 := uS HB.out (by first | exact ho0 | exact Kd.S_mono ho0 (fun _ _ => trivial) | exact Kd.S_mono ho0 (fun _ hk_ => hk_.1)); clear ho0; obtain ⟨Ao0_0, co0_0, eo0_0⟩ := Kd.S_slice HO0_0.out; subst eo0_0; have HO0_1 := uR HB.out (by first | exact ho1 | exact Kd.R_mono ho1 (fun _ _ => trivial) | exact Kd.R_mono ho1 (fun _ hk_ => hk_.1)); clear ho1; obtain ⟨Ao0_1, co0_1, eo0_1⟩ := Kd.R_slice HO0_1.out; subst eo0_1; replace HB := zM (below_step HB.out hb); clear hb; replace hc1_0 := zy BK1 0; replace hf1_0 := blk_frozen BK1.out 0; replace hc1_1 := zy BK1 1; replace hf1_1 := blk_frozen BK1.out 1)
    | (have hst_ : Aside0 (Below w.heap.size w w3) := HB; clear hst_; go_at_call 5; refine (spec_CutPlaces.calls k2 _ _ l0_0 _ _ l0_1 q0 q1 _ ?side1 ?side2 ?side3 ?side4 H2.out).mono ?_; (case side1 => exact zC (Kd.S_reads' HO0_0.out).2.2); (case side2 => exact (Kd.S_reads' HO0_0.out).2.1); (case side3 => exact zC (Kd.R_reads' HO0_1.out).2.2); (case side4 => exact (Kd.R_reads' HO0_1.out).2.1); clear HO0_0 HO0_1; rintro e w4 ⟨v1_0, rfl, ho0, hb⟩; replace BK1 := uKb BK1 hb; have HS4 := zM hb.size; have HO1_0 := uR HB.out (by first | exact ho0 | exact Kd.R_mono ho0 (fun _ _ => trivial) | exact Kd.R_mono ho0 (fun _ hk_ => hk_.1)); clear ho0; obtain ⟨Ao1_0, co1_0, eo1_0⟩ := Kd.R_slice HO1_0.out; subst eo1_0; replace HB := zM (below_step HB.out hb); clear hb; replace hc1_0 := zy BK1 0; replace hf1_0 := blk_frozen BK1.out 0; replace hc1_1 := zy BK1 1; replace hf1_1 := blk_frozen BK1.out 1)
    | (have hst_ : Aside0 (Below w.heap.size w w4) := HB; clear hst_; go_at_call 6; refine (laws_toSpace.calls k1 _ _ l0_0 _ _ l0_1 l0_0 l0_1 _ ?side1 ?side2 ?side3 ?side4 H1.out).mono ?_; (case side1 => exact zC (Kd.C_below HR0_0.out HB.out)); (case side2 => exact HC0_0.out); (case side3 => exact zC (Kd.C_below HR0_1.out HB.out)); (case side4 => exact HC0_1.out); rintro e w5 ⟨v2_0, v2_1, rfl, ho0, ho1, hb⟩; replace HO1_0 := uRb HO1_0 hb; replace BK1 := uKb BK1 hb; have HS5 := zM hb.size; have HO2_0 := uS HB.out (by first | exact ho0 | exact Kd.S_mono ho0 (fun _ _ => trivial) | exact Kd.S_mono ho0 (fun _ hk_ => hk_.1)); clear ho0; obtain ⟨Ao2_0, co2_0, eo2_0⟩ := Kd.S_slice HO2_0.out; subst eo2_0; have HO2_1 := uR HB.out (by first | exact ho1 | exact Kd.R_mono ho1 (fun _ _ => trivial) | exact Kd.R_mono ho1 (fun _ hk_ => hk_.1)); clear ho1; obtain ⟨Ao2_1, co2_1, eo2_1⟩ := Kd.R_slice HO2_1.out; subst eo2_1; replace HB := zM (below_step HB.out hb); clear hb; replace hc1_0 := zy BK1 0; replace hf1_0 := blk_frozen BK1.out 0; replace hc1_1 := zy BK1 1; replace hf1_1 := blk_frozen BK1.out 1)
    | ((with_reducible refine gate_dst (N := 6) rfl ?_); refine ze 6 #[.slice none 0 0, .slice none 0 0] 30 ?_; intro gb6 hg w6 hbox hb; have HG6 := zM hg; have HW6 := zM (show w.heap.size ≤ gb6 by rw [hg]; exact below_size HB.out); have HL6 := zM (blk_lt hbox); clear hg; replace HO1_0 := uRb HO1_0 hb; replace HO2_0 := uSb HO2_0 hb; replace HO2_1 := uRb HO2_1 hb; replace BK1 := uKb BK1 hb; have HS6 := zM hb.size; replace HB := zM (below_step HB.out hb); have hn1_6 : gb1 ≠ gb6 := (by have := HG6.out; have := HL1.out; have := HS2.out; have := HS3.out; have := HS4.out; have := HS5.out; omega); have hn6_1 := hn1_6.symm; have BK6 := zM hbox; clear hbox hb; replace hc1_0 := zy BK1 0; replace hf1_0 := blk_frozen BK1.out 0; replace hc1_1 := zy BK1 1; replace hf1_1 := blk_frozen BK1.out 1; have hc6_0 := zy BK6 0; have hf6_0 := blk_frozen BK6.out 0; have hc6_1 := zy BK6 1; have hf6_1 := blk_frozen BK6.out 1)
    | (have hst_ : Aside0 (Below w.heap.size w w6) := HB; clear hst_; go_at_call 7; refine uBox BK6 HB HW6.out ?_; intro w7 BKn hk HBn; replace HO1_0 := uRk HO1_0 hk (fun k_ hk_ e_ => by have e2 : k_ = gb6 := e_; have := HG6.out; have := HL6.out; have h2 : w3.heap.size ≤ k_ ∧ k_ < w4.heap.size := hk_; have := HS5.out; omega); replace HO2_0 := uSk HO2_0 hk (fun k_ hk_ e_ => by have e2 : k_ = gb6 := e_; have := HG6.out; have := HL6.out; have h2 : w4.heap.size ≤ k_ ∧ k_ < w5.heap.size := hk_; omega); replace HO2_1 := uRk HO2_1 hk (fun k_ hk_ e_ => by have e2 : k_ = gb6 := e_; have := HG6.out; have := HL6.out; have h2 : w4.heap.size ≤ k_ ∧ k_ < w5.heap.size := hk_; omega); replace BK1 := uKk BK1 hk (fun e_ => by have e2 : gb1 = gb6 := e_; have := HG6.out; have := HL6.out; have := HG1.out; have := HL1.out; have := HS2.out; have := HS3.out; have := HS4.out; have := HS5.out; omega); replace BK6 := BKn; replace HB := HBn; clear BKn HBn; have HS7 := zM hk.1; clear hk; refine (impl_CutPlaces.calls k3 _ _ l0_0 _ _ l0_1 q0 q1 _ ?side1 ?side2 ?side3 ?side4 H3.out).mono ?_; (case side1 => exact zC (Kd.S_reads' HO2_0.out).2.2); (case side2 => exact (Kd.S_reads' HO2_0.out).2.1); (case side3 => exact zC (Kd.R_reads' HO2_1.out).2.2); (case side4 => exact (Kd.R_reads' HO2_1.out).2.1); rintro e w8 ⟨v3_0, rfl, ho0, hb⟩; replace HO1_0 := uRb HO1_0 hb; replace HO2_0 := uSb HO2_0 hb; replace HO2_1 := uRb HO2_1 hb; replace BK1 := uKb BK1 hb; replace BK6 := uKb BK6 hb; have HS8 := zM hb.size; have HO3_0 := uR HB.out (by first | exact ho0 | exact Kd.R_mono ho0 (fun _ _ => trivial) | exact Kd.R_mono ho0 (fun _ hk_ => hk_.1)); clear ho0; obtain ⟨Ao3_0, co3_0, eo3_0⟩ := Kd.R_slice HO3_0.out; subst eo3_0; replace HB := zM (below_step HB.out hb); clear hb; replace hc1_0 := zy BK1 0; replace hf1_0 := blk_frozen BK1.out 0; replace hc1_1 := zy BK1 1; replace hf1_1 := blk_frozen BK1.out 1; replace hc6_0 := zy BK6 0; replace hf6_0 := blk_frozen BK6.out 0; replace hc6_1 := zy BK6 1; replace hf6_1 := blk_frozen BK6.out 1)
    | (have hst_ : Aside0 (Below w.heap.size w w8) := HB; clear hst_; go_at_call 8; refine (laws_eqIntS.calls k4 _ _ q0 _ _ q0 true _ ?side1 ?side2 ?side3 ?side4 H4.out).mono ?_; (case side1 => exact zC (Kd.R_reads' HO3_0.out).2.2); (case side2 => exact (Kd.R_reads' HO3_0.out).2.1); (case side3 => exact zC (Kd.R_reads' HO1_0.out).2.2); (case side4 => exact (Kd.R_reads' HO1_0.out).2.1); rintro e w9 ⟨rfl, hb0⟩; have hb := hb0.below; clear hb0; replace HO1_0 := uRb HO1_0 hb; replace HO2_0 := uSb HO2_0 hb; replace HO2_1 := uRb HO2_1 hb; replace HO3_0 := uRb HO3_0 hb; replace BK1 := uKb BK1 hb; replace BK6 := uKb BK6 hb; have HS9 := zM hb.size; replace HB := zM (below_step HB.out hb); clear hb; replace hc1_0 := zy BK1 0; replace hf1_0 := blk_frozen BK1.out 0; replace hc1_1 := zy BK1 1; replace hf1_1 := blk_frozen BK1.out 1; replace hc6_0 := zy BK6 0; replace hf6_0 := blk_frozen BK6.out 0; replace hc6_1 := zy BK6 1; replace hf6_1 := blk_frozen BK6.out 1))
  (try simp only [Act.put, List.setIfInBounds_toArray, List.set_cons_zero, List.set_cons_succ])
  replace HO1_0 := zM (Kd.R_drew HO1_0.out)
  replace HO2_0 := zM (Kd.S_drew HO2_0.out)
  replace HO2_1 := zM (Kd.R_drew HO2_1.out)
  replace HO3_0 := zM (Kd.R_drew HO3_0.out)
  replace BK1 := zM (blk_drew BK1.out)
  replace BK6 := zM (blk_drew BK6.out)
  replace HB := zM (below_drew1 HB.out)
  refine zs (n := 5) (fun w' => w'.cell? ⟨gb6, 0, none⟩ = some (.slice Ao2_0 l0_0.length co2_0) ∧ w'.cell? ⟨gb6, 1, none⟩ = some (.slice Ao2_1 l0_1.length co2_1) ∧ w'.cell? ⟨gb1, 0, none⟩ = some (.slice A0_0 l0_0.length ca0_0) ∧ w'.cell? ⟨gb1, 1, none⟩ = some (.slice A0_1 l0_1.length ca0_1)) ⟨(blk_cell BK6.out 0).trans rfl, (blk_cell BK6.out 1).trans rfl, (blk_cell BK1.out 0).trans rfl, (blk_cell BK1.out 1).trans rfl⟩ (fun hHeld => ?_)
  have HS10 := zM (show w9.heap.size ≤ w9.drew.heap.size from Nat.le_refl _)
  generalize w9.drew = w10 at HO1_0 HO2_0 HO2_1 HO3_0 BK1 BK6 HB HS10 hHeld ⊢
  refine zl 0 41 hHeld ?_ (hy := by rintro w' ⟨s0, s1, s2, s3⟩; go_simp; with_reducible rfl)
  refine zl 1 42 hHeld ?_ (hy := by rintro w' ⟨s0, s1, s2, s3⟩; go_simp; with_reducible rfl)
  refine zh 2 43 Try.func6 #[.agg #[.slice A0_0 l0_0.length ca0_0, .slice A0_1 l0_1.length ca0_1]] (fun K hK => ?_)
  (refine (laws_toSpace.calls k1 _ _ l0_0 _ _ l0_1 l0_0 l0_1 _ ?side1 ?side2 ?side3 ?side4 H1.out).mono ?_; (case side1 => exact zC (Kd.C_below HR0_0.out HB.out)); (case side2 => exact HC0_0.out); (case side3 => exact zC (Kd.C_below HR0_1.out HB.out)); (case side4 => exact HC0_1.out); rintro e w11 ⟨v4_0, v4_1, rfl, ho0, ho1, hb⟩; replace HO1_0 := uRb HO1_0 hb; replace HO2_0 := uSb HO2_0 hb; replace HO2_1 := uRb HO2_1 hb; replace HO3_0 := uRb HO3_0 hb; replace BK1 := uKb BK1 hb; replace BK6 := uKb BK6 hb; have HS11 := zM hb.size; have HO4_0 := uS HB.out (by first | exact ho0 | exact Kd.S_mono ho0 (fun _ _ => trivial) | exact Kd.S_mono ho0 (fun _ hk_ => hk_.1)); clear ho0; obtain ⟨Ao4_0, co4_0, eo4_0⟩ := Kd.S_slice HO4_0.out; subst eo4_0; have HO4_1 := uR HB.out (by first | exact ho1 | exact Kd.R_mono ho1 (fun _ _ => trivial) | exact Kd.R_mono ho1 (fun _ hk_ => hk_.1)); clear ho1; obtain ⟨Ao4_1, co4_1, eo4_1⟩ := Kd.R_slice HO4_1.out; subst eo4_1; replace HB := zM (below_step HB.out hb); clear hb)
  refine ⟨_, rfl, ?_⟩
  refine hK.out _ _ ⟨(blk_cell BK6.out 0).trans rfl, (blk_cell BK6.out 1).trans rfl, (blk_cell BK1.out 0).trans rfl, (blk_cell BK1.out 1).trans rfl⟩ (fun hHeld => ?_)
  clear hK K
  refine zn 43 ?_
  refine zh 3 44 Try.func9 #[.agg #[.slice Ao2_0 l0_0.length co2_0, .slice Ao2_1 l0_1.length co2_1], .agg #[.slice Ao4_0 l0_0.length co4_0, .slice Ao4_1 l0_1.length co4_1]] (fun K hK => ?_)
  (refine (laws_eqSpace.calls k5 _ _ l0_0 _ _ l0_1 _ _ l0_0 _ _ l0_1 true _ ?side1 ?side2 ?side3 ?side4 ?side5 ?side6 ?side7 ?side8 H5.out).mono ?_; (case side1 => exact zC (Kd.S_reads' HO2_0.out).2.2); (case side2 => exact (Kd.S_reads' HO2_0.out).2.1); (case side3 => exact zC (Kd.R_reads' HO2_1.out).2.2); (case side4 => exact (Kd.R_reads' HO2_1.out).2.1); (case side5 => exact zC (Kd.S_reads' HO4_0.out).2.2); (case side6 => exact (Kd.S_reads' HO4_0.out).2.1); (case side7 => exact zC (Kd.R_reads' HO4_1.out).2.2); (case side8 => exact (Kd.R_reads' HO4_1.out).2.1); clear HO4_0 HO4_1; rintro e w12 ⟨rfl, hb⟩; replace HO1_0 := uRb HO1_0 hb; replace HO2_0 := uSb HO2_0 hb; replace HO2_1 := uRb HO2_1 hb; replace HO3_0 := uRb HO3_0 hb; replace BK1 := uKb BK1 hb; replace BK6 := uKb BK6 hb; have HS12 := zM hb.size; replace HB := zM (below_step HB.out hb); clear hb)
  refine ⟨_, rfl, ?_⟩
  refine hK.out _ _ ⟨(blk_cell BK6.out 0).trans rfl, (blk_cell BK6.out 1).trans rfl, (blk_cell BK1.out 0).trans rfl, (blk_cell BK1.out 1).trans rfl⟩ (fun hHeld => ?_)
  clear hK K
  refine zn 44 ?_
  refine zq 4 45 ?_
  refine zx ?_
  replace hc1_0 := zy BK1 0
  replace hf1_0 := blk_frozen BK1.out 0
  replace hc1_1 := zy BK1 1
  replace hf1_1 := blk_frozen BK1.out 1
  replace hc6_0 := zy BK6 0
  replace hf6_0 := blk_frozen BK6.out 0
  replace hc6_1 := zy BK6 1
  replace hf6_1 := blk_frozen BK6.out 1
  go_wp2_with (first
    | (have hst_ : Aside0 (Below w.heap.size w w12) := HB; clear hst_; go_at_call 10; refine (laws_markSpace.callsf _ _ _ _ l0_0 l0_1 1 kk0 mk0_0 mk0_1 w w12 HB.out HO2_0.out HO2_1.out H6.out).mono ?_; clear HO2_0 HO2_1; clear BK6 hc6_0 hf6_0 hc6_1 hf6_1; rintro e w13 ⟨rfl, hy0, hy1, hb2, hk⟩; replace HO1_0 := uRk HO1_0 hk (fun k_ hk_ e_ => by have e2 : w4.heap.size ≤ k_ ∧ k_ < w5.heap.size := e_.elim id id; have h2 : w3.heap.size ≤ k_ ∧ k_ < w4.heap.size := hk_; omega); replace HO3_0 := uRk HO3_0 hk (fun k_ hk_ e_ => by have e2 : w4.heap.size ≤ k_ ∧ k_ < w5.heap.size := e_.elim id id; have h2 : w7.heap.size ≤ k_ ∧ k_ < w8.heap.size := hk_; have := HS6.out; have := HS7.out; omega); replace BK1 := uKk BK1 hk (fun e_ => by have e2 : w4.heap.size ≤ gb1 ∧ gb1 < w5.heap.size := e_.elim id id; have := HG1.out; have := HL1.out; have := HS2.out; have := HS3.out; have := HS4.out; omega); clear hy0; clear hy1; have HS13 := zM hk.1; replace HB := zM hb2; clear hb2 hk; replace hc1_0 := zy BK1 0; replace hf1_0 := blk_frozen BK1.out 0; replace hc1_1 := zy BK1 1; replace hf1_1 := blk_frozen BK1.out 1)
    | (have hst_ : Aside0 (Below w.heap.size w w13) := HB; clear hst_; go_at_call 8; refine (laws_eqIntS.calls k4 _ _ q0 _ _ q0 true _ ?side1 ?side2 ?side3 ?side4 H4.out).mono ?_; (case side1 => exact zC (Kd.R_reads' HO3_0.out).2.2); (case side2 => exact (Kd.R_reads' HO3_0.out).2.1); (case side3 => exact zC (Kd.R_reads' HO1_0.out).2.2); (case side4 => exact (Kd.R_reads' HO1_0.out).2.1); rintro e w14 ⟨rfl, hb0⟩; have hb := hb0.below; clear hb0; replace HO1_0 := uRb HO1_0 hb; replace HO3_0 := uRb HO3_0 hb; replace BK1 := uKb BK1 hb; have HS14 := zM hb.size; replace HB := zM (below_step HB.out hb); clear hb; replace hc1_0 := zy BK1 0; replace hf1_0 := blk_frozen BK1.out 0; replace hc1_1 := zy BK1 1; replace hf1_1 := blk_frozen BK1.out 1)
    | (have hst_ : Aside0 (Below w.heap.size w w14) := HB; clear hst_; go_at_call 11; refine (laws_markIntS.calls k7 _ _ q0 1 kk1 mk1_0 w w14 HB.out HO3_0.out H7.out).mono ?_; rintro e w15 ⟨rfl, hy0, hb2, hk⟩; replace HO1_0 := uRk HO1_0 hk (fun k_ hk_ e_ => by have e2 : w7.heap.size ≤ k_ ∧ k_ < w8.heap.size := e_; have h2 : w3.heap.size ≤ k_ ∧ k_ < w4.heap.size := hk_; have := HS5.out; have := HS6.out; have := HS7.out; omega); replace BK1 := uKk BK1 hk (fun e_ => by have e2 : w7.heap.size ≤ gb1 ∧ gb1 < w8.heap.size := e_; have := HG1.out; have := HL1.out; have := HS2.out; have := HS3.out; have := HS4.out; have := HS5.out; have := HS6.out; have := HS7.out; omega); replace HO3_0 := zM (Kd.R_mono (Kd.R_bound hy0) (fun k_ hk_ => (Or.imp id (fun h_ => ⟨h_, hk_.2.2.1⟩) hk_.1 : (w7.heap.size ≤ k_ ∧ k_ < w8.heap.size) ∨ (w14.heap.size ≤ k_ ∧ k_ < w15.heap.size)))); clear hy0; have hl3_0 := (Kd.R_reads' HO3_0.out).1; rw [hl3_0] at HO3_0; replace hl3_0 := zM hl3_0; have HS15 := zM hk.1; replace HB := zM hb2; clear hb2 hk; replace hc1_0 := zy BK1 0; replace hf1_0 := blk_frozen BK1.out 0; replace hc1_1 := zy BK1 1; replace hf1_1 := blk_frozen BK1.out 1)
    | (have hst_ : Aside0 (Below w.heap.size w w15) := HB; clear hst_; go_at_call 12; refine uArgs (args' := #[.slice Ao3_0 mk1_0.length co3_0, .int .i64 1]) (by rw [hl3_0.out]) ?_; refine (laws_heldIntS.calls k8 _ _ mk1_0 1 kk1 _ ?side1 ?side2 H8.out).mono ?_; (case side1 => exact zC (Kd.R_reads' HO3_0.out).2.2); (case side2 => exact (Kd.R_reads' HO3_0.out).2.1); rintro e w16 ⟨rfl, hb0⟩; have hb := hb0.below; clear hb0; replace HO1_0 := uRb HO1_0 hb; replace HO3_0 := uRb HO3_0 hb; replace BK1 := uKb BK1 hb; have HS16 := zM hb.size; replace HB := zM (below_step HB.out hb); clear hb; replace hc1_0 := zy BK1 0; replace hf1_0 := blk_frozen BK1.out 0; replace hc1_1 := zy BK1 1; replace hf1_1 := blk_frozen BK1.out 1)
    | (have hst_ : Aside0 (Below w.heap.size w w16) := HB; clear hst_; go_at_call 6; refine (laws_toSpace.calls k1 _ _ l0_0 _ _ l0_1 l0_0 l0_1 _ ?side1 ?side2 ?side3 ?side4 H1.out).mono ?_; (case side1 => exact zC (Kd.C_below HR0_0.out HB.out)); (case side2 => exact HC0_0.out); (case side3 => exact zC (Kd.C_below HR0_1.out HB.out)); (case side4 => exact HC0_1.out); clear BK1 hc1_0 hf1_0 hc1_1 hf1_1; rintro e w17 ⟨v5_0, v5_1, rfl, ho0, ho1, hb⟩; replace HO1_0 := uRb HO1_0 hb; replace HO3_0 := uRb HO3_0 hb; have HS17 := zM hb.size; have HO5_0 := uS HB.out (by first | exact ho0 | exact Kd.S_mono ho0 (fun _ _ => trivial) | exact Kd.S_mono ho0 (fun _ hk_ => hk_.1)); clear ho0; obtain ⟨Ao5_0, co5_0, eo5_0⟩ := Kd.S_slice HO5_0.out; subst eo5_0; have HO5_1 := uR HB.out (by first | exact ho1 | exact Kd.R_mono ho1 (fun _ _ => trivial) | exact Kd.R_mono ho1 (fun _ hk_ => hk_.1)); clear ho1; obtain ⟨Ao5_1, co5_1, eo5_1⟩ := Kd.R_slice HO5_1.out; subst eo5_1; replace HB := zM (below_step HB.out hb); clear hb)
    | (have hst_ : Aside0 (Below w.heap.size w w17) := HB; clear hst_; go_at_call 7; refine (impl_CutPlaces.calls k3 _ _ l0_0 _ _ l0_1 q0 q1 _ ?side1 ?side2 ?side3 ?side4 H3.out).mono ?_; (case side1 => exact zC (Kd.S_reads' HO5_0.out).2.2); (case side2 => exact (Kd.S_reads' HO5_0.out).2.1); (case side3 => exact zC (Kd.R_reads' HO5_1.out).2.2); (case side4 => exact (Kd.R_reads' HO5_1.out).2.1); clear HO5_0 HO5_1; rintro e w18 ⟨v6_0, rfl, ho0, hb⟩; replace HO1_0 := uRb HO1_0 hb; replace HO3_0 := uRb HO3_0 hb; have HS18 := zM hb.size; have HO6_0 := uR HB.out (by first | exact ho0 | exact Kd.R_mono ho0 (fun _ _ => trivial) | exact Kd.R_mono ho0 (fun _ hk_ => hk_.1)); clear ho0; obtain ⟨Ao6_0, co6_0, eo6_0⟩ := Kd.R_slice HO6_0.out; subst eo6_0; replace HB := zM (below_step HB.out hb); clear hb)
    | (have hst_ : Aside0 (Below w.heap.size w w18) := HB; clear hst_; go_at_call 8; refine (laws_eqIntS.calls k4 _ _ q0 _ _ q0 true _ ?side1 ?side2 ?side3 ?side4 H4.out).mono ?_; (case side1 => exact zC (Kd.R_reads' HO6_0.out).2.2); (case side2 => exact (Kd.R_reads' HO6_0.out).2.1); (case side3 => exact zC (Kd.R_reads' HO1_0.out).2.2); (case side4 => exact (Kd.R_reads' HO1_0.out).2.1); clear HO1_0; clear HO6_0; rintro e w19 ⟨rfl, hb0⟩; have hb := hb0.below; clear hb0; replace HO3_0 := uRb HO3_0 hb; have HS19 := zM hb.size; replace HB := zM (below_step HB.out hb); clear hb)
    | (have hst_ : Aside0 (Below w.heap.size w w19) := HB; clear hst_; go_at_call 12; refine uArgs (args' := #[.slice Ao3_0 mk1_0.length co3_0, .int .i64 1]) (by rw [hl3_0.out]) ?_; refine (laws_heldIntS.calls k8 _ _ mk1_0 1 kk1 _ ?side1 ?side2 H8.out).mono ?_; (case side1 => exact zC (Kd.R_reads' HO3_0.out).2.2); (case side2 => exact (Kd.R_reads' HO3_0.out).2.1); clear HO3_0; rintro e w20 ⟨rfl, hb0⟩; have hb := hb0.below; clear hb0; have HS20 := zM hb.size; replace HB := zM (below_step HB.out hb); clear hb))
  go_ret
  exact ⟨rfl, HB.out⟩
end Go.Proofs.Ytaemfocjokkopaa.P
namespace Go.Proofs.Ytaemfocjokkopaa.P
open Go.RowKit Go.Deep Go.ChangeShapes Go.Joins Go.Proofs.YtaemfocjokkopaaW.PrintWords
set_option linter.unusedVariables false
set_option linter.unusedSimpArgs false
/-- A whole number, a list of them, a list of pairs, a list of lists, as they come in. -/
def FitL (l : List Int) : Prop := l.length ≤ 9223372036854775807 ∧ ∀ n ∈ l, (Lit.int .i64 n).wf = true
def FitP (l : List S54) : Prop := l.length ≤ 9223372036854775807 ∧ ∀ e ∈ l, (Lit.int .i64 e.f0).wf = true ∧ (Lit.int .i64 e.f1).wf = true
def FitLL (l : List (List Int)) : Prop := l.length ≤ 9223372036854775807 ∧ ∀ s ∈ l, FitL s
section
variable {H : Type} {enc : TypeId × Value → H} {W : World} {base : Nat} {held : Bool} {fuel : Nat}

theorem read_lists {v : Value} {y : DataW H × List MemPlace} (h : DataW.trod enc Try.prog W base (fun _ => true) held fuel 22 [v] = some y) :
    ∃ (A : Option Addr) (c : Nat) (l : List (List Int)), v = .slice A l.length c ∧ l.length ≤ c ∧ Kd.C (Kd.slice 3 (Kd.int .i64)) W A l.length l ∧ FitLL l := by
  rcases open_int_rows Try.underlying22 Try.underlying27 Try.underlying3 (by kernel_rfl) (by kernel_rfl) h with ⟨hcs, _⟩ | ⟨a, len, cap, Ar, L, C, Z, hcs, _, hl, hm, _, hx⟩
  · injection hcs with hv _
    exact ⟨none, 0, [], hv, Nat.le_refl _, ⟨rfl, Nat.zero_le _, fun h0 => absurd h0 (Nat.lt_irrefl _)⟩, ⟨Nat.zero_le _, fun n hn => by cases hn⟩⟩
  · injection hcs with hv _
    have hlen : ((List.range len).map fun r => (Z r).take (L r)).length = len := by simp
    refine ⟨some a, cap, (List.range len).map fun r => (Z r).take (L r), by rw [hlen]; exact hv, by omega, ⟨rfl, by unfold maxLen at hm; omega, fun _ => ⟨a, rfl, fun j p hj => ?_⟩⟩, ⟨by rw [hlen]; unfold maxLen at hm; omega, ?_⟩⟩
    · have hj2 := (List.getElem?_eq_some_iff.1 hj).1
      rw [hlen] at hj2
      have hp : (Z j).take (L j) = p := by
        rw [List.getElem?_map, List.getElem?_range hj2] at hj
        exact Option.some.inj hj
      subst hp
      obtain ⟨h1, h2, h3, h4, h5, h6, h7⟩ := hx j (by omega)
      have hpl : ((Z j).take (L j)).length = L j := by rw [List.length_take]; omega
      refine ⟨[.slice (Ar j) (L j) (C j)], rfl, ⟨Ar j, C j, by rw [hpl], by omega, ⟨rfl, by unfold maxLen at h3; omega, fun h0 => ?_⟩⟩, fun i u hi => ?_⟩
      · cases ha : Ar j with
        | none => have := h6 ha; omega
        | some a' =>
          refine ⟨a', rfl, fun q p hq => ⟨[.int .i64 p], rfl, rfl, fun i u hi => ?_⟩⟩
          cases i with
          | succ i => simp at hi
          | zero =>
            have hu : Value.int .i64 p = u := by simpa using hi
            subst hu
            have hq2 := (List.getElem?_eq_some_iff.1 hq).1
            rw [hpl] at hq2
            have hq3 : (Z j)[q]? = some p := by rw [List.getElem?_take, if_pos hq2] at hq; exact hq
            have := (h7 a' ha).2 q (by omega)
            rw [List.getD_eq_getElem?_getD, hq3] at this
            simpa [show (Kd.int .i64).sz = 1 from rfl] using this
      · cases i with
        | succ i => simp at hi
        | zero =>
          have hu : Value.slice (Ar j) (L j) (C j) = u := by simpa using hi
          subst hu
          simpa [show (Kd.slice 3 (Kd.int .i64)).sz = 1 from rfl] using h1
    · intro s hs
      rw [List.mem_map] at hs
      obtain ⟨r, hr, rfl⟩ := hs
      have h1 := hx r (by have := List.mem_range.1 hr; omega)
      exact ⟨by have := h1.2.2.1; have := h1.2.2.2.1; unfold maxLen at *; rw [List.length_take]; omega, fun n hn => h1.2.2.2.2.1 n (List.mem_of_mem_take hn)⟩

theorem read_prs {v : Value} {y : DataW H × List MemPlace} (h : DataW.trod enc Try.prog W base (fun _ => true) held fuel 23 [v] = some y) :
    ∃ (A : Option Addr) (c : Nat) (l : List S54), v = .slice A l.length c ∧ l.length ≤ c ∧ Kd.C k54 W A l.length l ∧ FitP l := by
  rcases open_slice Try.underlying23 h with ⟨hcs, _⟩ | ⟨a, len, cap, m, n, D, Pl, hcs, _, hl, hm, hmm, _, hx⟩
  · injection hcs with hv _
    exact ⟨none, 0, [], hv, Nat.le_refl _, ⟨rfl, Nat.zero_le _, fun h0 => absurd h0 (Nat.lt_irrefl _)⟩, ⟨Nat.zero_le _, fun n hn => by cases hn⟩⟩
  · injection hcs with hv _
    have hce : Try.prog.cellsOf 54 = 2 := by kernel_rfl
    have hci : Try.prog.cellsOf 3 = 1 := by kernel_rfl
    have each : ∀ i, i < len → ∃ e : S54, (W.cell? (a.add (i * 2)) = some (.int .i64 e.f0) ∧ W.cell? (a.add (i * 2 + 1)) = some (.int .i64 e.f1)) ∧ (Lit.int .i64 e.f0).wf = true ∧ (Lit.int .i64 e.f1).wf = true := by
      intro i hi
      obtain ⟨cs', h1, h2⟩ := hx i (by simp only [if_true] at hmm; omega)
      rw [hce] at h1
      obtain ⟨_, hcl, hcc⟩ := World.cells?_some h1
      obtain ⟨c0, c1, rfl⟩ : ∃ c0 c1, cs' = [c0, c1] := by
        match cs', hcl with
        | [c0, c1], _ => exact ⟨c0, c1, rfl⟩
      obtain ⟨xs, q, rfl, hq, _, hxl, he⟩ := DataW.trod_array Try.underlying54 h2
      have e0 := he 0 (by omega)
      have e1 := he 1 (by omega)
      simp only [hci] at e0 e1
      obtain ⟨y0, hy0⟩ : ∃ y0, xs[0]? = some y0 := ⟨xs[0], List.getElem?_eq_getElem (by omega)⟩
      obtain ⟨y1, hy1⟩ : ∃ y1, xs[1]? = some y1 := ⟨xs[1], List.getElem?_eq_getElem (by omega)⟩
      rw [hy0] at e0
      rw [hy1] at e1
      obtain ⟨n0, k0, _, w0⟩ := DataW.trod_int Try.underlying3 e0
      obtain ⟨n1, k1, _, w1⟩ := DataW.trod_int Try.underlying3 e1
      simp at k0 k1
      subst k0
      subst k1
      have f0 := hcc 0 (by omega)
      have f1 := hcc 1 (by omega)
      refine ⟨⟨n0, n1⟩, ⟨?_, ?_⟩, w0, w1⟩
      · rw [Addr.add_add, Nat.add_zero] at f0
        simpa using f0
      · rw [Addr.add_add] at f1
        simpa using f1
    have hlen : ((List.range len).map fun i => if hi : i < len then (each i hi).choose else z54).length = len := by simp
    refine ⟨some a, cap, (List.range len).map fun i => if hi : i < len then (each i hi).choose else z54, by rw [hlen]; exact hv, by omega, ⟨rfl, by unfold maxLen at hm; omega, fun _ => ⟨a, rfl, fun j p hj => ?_⟩⟩, ⟨by rw [hlen]; unfold maxLen at hm; omega, ?_⟩⟩
    · have hj2 := (List.getElem?_eq_some_iff.1 hj).1
      rw [hlen] at hj2
      have hp : (each j hj2).choose = p := by
        rw [List.getElem?_map, List.getElem?_range hj2] at hj
        simpa [hj2] using hj
      obtain ⟨⟨h1, h2⟩, _⟩ := (each j hj2).choose_spec
      rw [hp] at h1 h2
      refine ⟨[.int .i64 p.f0, .int .i64 p.f1], rfl, k54_mk W p, fun i u hi => ?_⟩
      rw [show k54.sz = 2 from rfl]
      match i, hi with
      | 0, hi =>
        have hu : Value.int .i64 p.f0 = u := by simpa using hi
        subst hu
        exact h1
      | 1, hi =>
        have hu : Value.int .i64 p.f1 = u := by simpa using hi
        subst hu
        exact h2
    · intro e he
      rw [List.mem_map] at he
      obtain ⟨r, hr, rfl⟩ := he
      have hr2 := List.mem_range.1 hr
      simp only [hr2, dif_pos]
      exact (each r hr2).choose_spec.2
end
end Go.Proofs.Ytaemfocjokkopaa.P
namespace Go.Proofs.Ytaemfocjokkopaa.P
open Go.RowKit Go.Proofs.YtaemfocjokkopaaW.PrintWords Go.Proofs.YtaemfocjokkopaaW.PrintLast Go.Proofs.YtaemfocjokkopaaW.PrintMore
set_option linter.unusedVariables false
set_option linter.unusedSimpArgs false
section
variable {α β : Type}
theorem Ev.pos {c : Prop} [Decidable c] {f g : Nat → Option α} {r : α} (h : c) (k : Ev f r) : Ev (fun n => if c then f n else g n) r := by simpa only [if_pos h] using k
theorem Ev.neg {c : Prop} [Decidable c] {f g : Nat → Option α} {r : α} (h : ¬ c) (k : Ev g r) : Ev (fun n => if c then f n else g n) r := by simpa only [if_neg h] using k
theorem Ev.bindo {o : Option α} {f : Nat → α → Option β} {a : α} {r : β} (h : o = some a) (k : Ev (fun n => f n a) r) : Ev (fun n => o.bind (f n)) r := by simpa only [h, Option.bind_some] using k
theorem Ev.some {o : Option α} {r : α} (h : o = some r) : Ev (fun _ => o) r := ⟨0, fun _ _ => h⟩
end
theorem wrap_nat {m : Int} (h : -9223372036854775808 ≤ m) (h2 : m ≤ 9223372036854775807) : wrap64 m = m := by unfold wrap64; omega
theorem wrap_up {m n : Nat} (h : m < n) (hn : n ≤ 9223372036854775807) : wrap64 ((m : Int) + 1) = ((m + 1 : Nat) : Int) := by unfold wrap64; omega
theorem rd_at (l : List Int) (m : Nat) (h : m < l.length) : rd l (m : Int) = l[m] := by simp [rd, List.getD_eq_getElem?_getD, List.getElem?_eq_getElem h]
theorem rdT_at (l : List S54) (m : Nat) (h : m < l.length) : rd_T54 l (m : Int) = l[m] := by simp [rd_T54, List.getD_eq_getElem?_getD, List.getElem?_eq_getElem h]

/-! Copies. -/
theorem take_set_next {α : Type} (l acc : List α) (m : Nat) (hm : m < l.length) (ha : acc.length = l.length) (h : acc.take m = l.take m) : (acc.set m l[m]).take (m + 1) = l.take (m + 1) := by
  rw [List.take_succ_eq_append_getElem (by rw [List.length_set]; omega), List.take_succ_eq_append_getElem hm, List.getElem_set_self, List.take_set_of_le (Nat.le_refl _), h]
theorem toIntA2S_loop (l : List S54) (hl : l.length ≤ 1048576) (d : Nat) : ∀ (acc : List S54) (m : Nat), l.length - m = d → m ≤ l.length → acc.length = l.length → acc.take m = l.take m →
    Ev (fun k => laws_toIntA2S.l0 k l acc (m : Int)) l := by
  induction d with
  | zero =>
    intro acc m h0 h1 h2 h3
    refine Ev.step (fun k => by rw [laws_toIntA2S.l0]) ?_
    refine Ev.neg (by omega) ?_
    have : acc = l := by rw [← List.take_length (l := acc), ← List.take_length (l := l), h2, show l.length = m by omega]; exact h3
    rw [this]
    exact Ev.now _
  | succ d ih =>
    intro acc m h0 h1 h2 h3
    have hm : m < l.length := by omega
    refine Ev.step (fun k => by rw [laws_toIntA2S.l0]) ?_
    refine Ev.pos (by omega) (Ev.pos (by omega) (Ev.bindo rfl (Ev.pos (by omega) ?_)))
    rw [wrap_up hm (by omega), rdT_at l m hm, Int.toNat_natCast]
    exact ih _ (m + 1) (by omega) (by omega) (by rw [List.length_set]; exact h2) (take_set_next l acc m hm h2 h3)
theorem toIntA2S_ev (l : List S54) (hl : l.length ≤ 1048576) : Ev (fun k => laws_toIntA2S.f k l) l := by
  unfold laws_toIntA2S.f
  refine Ev.pos (by omega) (Ev.pos (by omega) ?_)
  exact toIntA2S_loop l hl l.length _ 0 (by omega) (Nat.zero_le _) (by simp) (by simp)
theorem toIntS_loop (l : List Int) (hl : l.length ≤ 1048576) (d : Nat) : ∀ (acc : List Int) (m : Nat), l.length - m = d → m ≤ l.length → acc.length = l.length → acc.take m = l.take m →
    Ev (fun k => laws_toIntS.l0 k l acc (m : Int)) l := by
  induction d with
  | zero =>
    intro acc m h0 h1 h2 h3
    refine Ev.step (fun k => by rw [laws_toIntS.l0]) ?_
    refine Ev.neg (by omega) ?_
    have : acc = l := by rw [← List.take_length (l := acc), ← List.take_length (l := l), h2, show l.length = m by omega]; exact h3
    rw [this]
    exact Ev.now _
  | succ d ih =>
    intro acc m h0 h1 h2 h3
    have hm : m < l.length := by omega
    refine Ev.step (fun k => by rw [laws_toIntS.l0]) ?_
    refine Ev.pos (by omega) (Ev.pos (by omega) (Ev.pos (by omega) ?_))
    rw [wrap_up hm (by omega), rd_at l m hm, Int.toNat_natCast]
    exact ih _ (m + 1) (by omega) (by omega) (by rw [List.length_set]; exact h2) (take_set_next l acc m hm h2 h3)
theorem toIntS_ev (l : List Int) (hl : l.length ≤ 1048576) : Ev (fun k => laws_toIntS.f k l) l := by
  unfold laws_toIntS.f
  refine Ev.pos (by omega) (Ev.pos (by omega) ?_)
  exact toIntS_loop l hl l.length _ 0 (by omega) (Nat.zero_le _) (by simp) (by simp)
/-! Comparisons of equals. -/
theorem eqIntA2S_loop (l : List S54) (hl : l.length ≤ 1048576) (d : Nat) : ∀ (m : Nat), l.length - m = d → m ≤ l.length → Ev (fun k => laws_eqIntA2S.l0 k l l (m : Int)) true := by
  induction d with
  | zero =>
    intro m h0 h1
    refine Ev.step (fun k => by rw [laws_eqIntA2S.l0]) ?_
    exact Ev.neg (by omega) (Ev.now _)
  | succ d ih =>
    intro m h0 h1
    have hm : m < l.length := by omega
    refine Ev.step (fun k => by rw [laws_eqIntA2S.l0]) ?_
    refine Ev.pos (by omega) (Ev.pos (by omega) (Ev.pos (by omega) (Ev.bindo (a := true) (by simp [laws_eqIntA2.f]) (Ev.pos rfl ?_))))
    rw [wrap_up hm (by omega)]
    exact ih (m + 1) (by omega) (by omega)
theorem eqIntA2S_ev (l : List S54) (hl : l.length ≤ 1048576) : Ev (fun k => laws_eqIntA2S.f k l l) true := by
  unfold laws_eqIntA2S.f
  exact Ev.pos rfl (eqIntA2S_loop l hl l.length 0 (by omega) (Nat.zero_le _))
theorem eqIntS_loop (l : List Int) (hl : l.length ≤ 1048576) (d : Nat) : ∀ (m : Nat), l.length - m = d → m ≤ l.length → Ev (fun k => laws_eqIntS.l0 k l l (m : Int)) true := by
  induction d with
  | zero =>
    intro m h0 h1
    refine Ev.step (fun k => by rw [laws_eqIntS.l0]) ?_
    exact Ev.neg (by omega) (Ev.now _)
  | succ d ih =>
    intro m h0 h1
    have hm : m < l.length := by omega
    refine Ev.step (fun k => by rw [laws_eqIntS.l0]) ?_
    refine Ev.pos (by omega) (Ev.pos (by omega) (Ev.pos (by omega) (Ev.pos rfl ?_)))
    rw [wrap_up hm (by omega)]
    exact ih (m + 1) (by omega) (by omega)
theorem eqIntS_ev (l : List Int) (hl : l.length ≤ 1048576) : Ev (fun k => laws_eqIntS.f k l l) true := by
  unfold laws_eqIntS.f
  exact Ev.pos rfl (eqIntS_loop l hl l.length 0 (by omega) (Nat.zero_le _))
end Go.Proofs.Ytaemfocjokkopaa.P
namespace Go.Proofs.Ytaemfocjokkopaa.P
open Go.RowKit Go.Proofs.YtaemfocjokkopaaW.PrintWords Go.Proofs.YtaemfocjokkopaaW.PrintLast Go.Proofs.YtaemfocjokkopaaW.PrintMore
set_option linter.unusedVariables false
set_option linter.unusedSimpArgs false

def cmpI (a b : Int) : Int := if a < b then -1 else if a > b then 1 else 0
theorem cmp_Compare_at (a b : Int) : cmp_Compare_int.f a b = some (cmpI a b) := by
  unfold cmp_Compare_int.f cmp_isNaN_int.f cmpI
  simp only [Option.bind_some, bne_self_eq_false, Bool.false_eq_true, if_false]
  split
  · rfl
  · split <;> rfl
def cmpL : List Int → List Int → Int
  | [], [] => 0
  | [], _ :: _ => -1
  | _ :: _, [] => 1
  | a :: x, b :: y => if cmpI a b = 0 then cmpL x y else cmpI a b
theorem wrap_succ {m n : Nat} (h : m < n) (hn : n ≤ 9223372036854775807) : wrap64 ((m : Int) + 1) = ((m + 1 : Nat) : Int) := by unfold wrap64; omega
theorem slices_Compare_loop (l0 l1 : List Int) (hl : Aside0 (l0.length ≤ 9223372036854775807)) (d : Nat) : ∀ (k m : Nat), l0.length - m = d → m ≤ l0.length → m ≤ l1.length → d < k →
    slices_Compare_int_int.l0 k l0 l1 l0 (l0.length : Int) (m : Int) = some (cmpL (l0.drop m) (l1.drop m)) := by
  induction d with
  | zero =>
    intro k m h0 h1 h2 hk
    obtain ⟨k, rfl⟩ : ∃ q, k = q + 1 := ⟨k - 1, by omega⟩
    have e : m = l0.length := by omega
    subst e
    rw [slices_Compare_int_int.l0, if_neg (by omega), List.drop_length]
    by_cases h : l0.length < l1.length
    · rw [if_pos (by omega), List.drop_eq_getElem_cons h]; rfl
    · have e3 : l1.drop l0.length = [] := List.drop_eq_nil_of_le (by omega)
      rw [if_neg (by omega), e3]; rfl
  | succ d ih =>
    intro k m h0 h1 h2 hk
    obtain ⟨k, rfl⟩ : ∃ q, k = q + 1 := ⟨k - 1, by omega⟩
    have hm : m < l0.length := by omega
    rw [slices_Compare_int_int.l0, if_pos (by omega), if_pos (by omega), if_pos (by omega)]
    by_cases h : m < l1.length
    · rw [if_neg (by omega), if_pos (by omega), cmp_Compare_at, Option.bind_some]
      have e0 : rd l0 m = l0[m] := by simp [rd, List.getD_eq_getElem?_getD, List.getElem?_eq_getElem hm]
      have e1 : rd l1 m = l1[m] := by simp [rd, List.getD_eq_getElem?_getD, List.getElem?_eq_getElem h]
      rw [e0, e1, List.drop_eq_getElem_cons hm, List.drop_eq_getElem_cons h, cmpL]
      split
      · rw [wrap_succ hm hl.out]
        exact ih k (m + 1) (by omega) (by omega) (by omega) (by omega)
      · rfl
    · have e3 : l1.drop m = [] := List.drop_eq_nil_of_le (by omega)
      rw [if_pos (by omega), List.drop_eq_getElem_cons hm, e3]; rfl
theorem slices_Compare_at (l0 l1 : List Int) (hl : l0.length ≤ 9223372036854775807) (k : Nat) (hk : l0.length < k) : slices_Compare_int_int.f k l0 l1 = some (cmpL l0 l1) :=
  slices_Compare_loop l0 l1 ⟨hl⟩ l0.length k 0 (by omega) (Nat.zero_le _) (Nat.zero_le _) hk
def cmpP (a b : S54) : Int := if cmpI a.f0 b.f0 = 0 then cmpI a.f1 b.f1 else cmpI a.f0 b.f0
theorem comparePairs_at (a b : S54) (k : Nat) (hk : 3 ≤ k) : impl_comparePairs.f k a.f0 a.f1 b.f0 b.f1 = some (cmpP a b) := by
  obtain ⟨k, rfl⟩ : ∃ q, k = q + 3 := ⟨k - 3, by omega⟩
  unfold impl_comparePairs.f cmp_Or_int.f
  simp only [cmp_Compare_at, Option.bind_some]
  unfold cmpP
  generalize cmpI a.f0 b.f0 = x
  generalize cmpI a.f1 b.f1 = y
  have w1 : wrap64 (0 + 1) = 1 := by unfold wrap64; omega
  have w2 : wrap64 (1 + 1) = 2 := by unfold wrap64; omega
  have r0 : rd [x, y] 0 = x := rfl
  have r1 : rd [x, y] 1 = y := rfl
  have hn : (([x, y] : List Int).length : Int) = 2 := rfl
  rw [hn, cmp_Or_int.l0, if_pos (by omega), if_pos (by omega), hn, if_pos (by omega), r0, w1]
  by_cases h : x = 0
  · rw [if_pos h, if_pos h, cmp_Or_int.l0, if_pos (by omega), if_pos (by omega), hn, if_pos (by omega), r1, w2]
    by_cases h2 : y = 0
    · rw [if_pos h2, cmp_Or_int.l0, if_neg (by omega), h2]; rfl
    · rw [if_neg h2]; rfl
  · rw [if_neg h, if_neg h]; rfl
end Go.Proofs.Ytaemfocjokkopaa.P
