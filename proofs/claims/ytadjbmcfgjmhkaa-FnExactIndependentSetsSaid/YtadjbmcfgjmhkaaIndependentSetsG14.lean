-- Written by a program of this session (the kit's print, turned: wip/print/patch.py) out of the translation. Not trusted: Lean checks it.
import Derived.Test.YtadjbmcfgjmhkaaIndependentSetsG5
import Derived.Handy
import Derived.Test.YtadjbmcfgjmhkaaIndependentSetsG13
import Derived.Test.YtadjbmcfgjmhkaaIndependentSetsG12
import Derived.Test.YtadjbmcfgjmhkaaIndependentSetsG9
import Derived.Test.YtadjbmcfgjmhkaaIndependentSetsG8
import Derived.Test.YtadjbmcfgjmhkaaIndependentSetsG10
namespace Go.Proofs.Ytadjbmcfgjmhkaa.P
open Go.RowKit Go.Proofs.YtadjbmcfgjmhkaaW.PrintWords Go.Proofs.YtadjbmcfgjmhkaaW.PrintLast Go.Proofs.YtadjbmcfgjmhkaaW.PrintMore
attribute [local go_sem] max2_int min2_int max_two min_two max_three min_three max_four min_four   -- for this text's walks alone
set_option linter.unusedVariables false
set_option linter.unusedSimpArgs false

/-! ### laws_markIntS: function 24 -/
def laws_markIntS.l0 : Nat → List Int → Int → Int → Option (Int × List Int)
 | 0, _, _, _ => none
 | k + 1, x0, x1, x5 => if x5 < (x0.length : Int) then (if 0 ≤ x5 then (laws_markIntS.l0 k (x0.set (x5 : Int).toNat x1) (wrap64 (x1 + 1)) (wrap64 (x5 + 1))) else (none)) else (some (x1, x0))
def laws_markIntS.f (k : Nat) (l0 : List Int) (a1 : Int) : Option (Int × List Int) := laws_markIntS.l0 k l0 a1 0
set_option maxHeartbeats 8000000 in
set_option maxRecDepth 100000 in
theorem laws_markIntS.calls (k : Nat) (P0_ : Nat → Prop) (u9000_ : Value) (l0 : List Int) (a1 : Int) (r1 : Int) (r2 : List Int) (w0 w : World) (hB : Below w0.heap.size w0 w) (ho0 : Kd.R (Kd.int .i64) 3 w w0.heap.size P0_ u9000_ l0) (h : laws_markIntS.f k l0 a1 = some (r1, r2)) :
 Calls Try.prog 24 #[u9000_, .int .i64 a1] w fun e w' => e = .returned (.int .i64 r1) ∧ Kd.R (Kd.int .i64) 3 w' w0.heap.size (fun k_ => (P0_ k_ ∨ w.heap.size ≤ k_)) u9000_ r2 ∧ Below w0.heap.size w0 w' ∧ Kept w w' (fun k_ => P0_ k_) := by
 have HO0 := zM (show Kd.R (Kd.int .i64) 3 w w0.heap.size (fun k_ => (P0_ k_ ∨ w.heap.size ≤ k_)) u9000_ l0 from Kd.R_mono ho0 (fun k_ hk => (.inl hk)))
 have HK := zM (Kept.refl w (fun k_ => P0_ k_))
 have HW0 := Aside0.mk hB.size
 have HB := Aside0.mk hB
 clear hB
 have H : (laws_markIntS.l0 k l0 a1 0) = some (r1, r2) := h
 clear h
 have H' := Aside0.mk H
 clear H
 go_enter Try.func24, Try.ntmps24
 go_wp2
 go_loopg [1, 5] k (fun kq v1 v5 w' => ∃ (x0_1 : List Int) (x1_1 : Int) (x5_1 : Int), v1 = .int .i64 x1_1 ∧ v5 = .int .i64 x5_1 ∧ Aside0 (laws_markIntS.l0 kq x0_1 x1_1 x5_1 = some (r1, r2)) ∧ Aside0 (kq ≤ k) ∧ Aside0 (Kd.R (Kd.int .i64) 3 w' w0.heap.size (fun k_ => (P0_ k_ ∨ w.heap.size ≤ k_)) u9000_ x0_1) ∧ Aside0 (Kept w w' (fun k_ => P0_ k_)) ∧ Aside0 (Below w0.heap.size w0 w'))
 case atStart => exact ⟨(l0), (a1), (0), (by first | rfl | (simp; done) | (simp [*]; done)), (by first | rfl | (simp; done) | (simp [*]; done)), H', ⟨Nat.le_refl _⟩, ⟨zR HO0.out⟩, ⟨by repeat (first | (with_reducible first | exact HK.out | apply Kept.alloc | apply Kept.drewN | apply Kept.drew) | exact HK.out)⟩, ⟨zB⟩⟩
 case round =>
  clear H'
  try clear c2
  try clear p2
  obtain ⟨x0_1, x1_1, x5_1, rfl, rfl, HA, HK1, HO_0, HK, HB⟩ := hrel
  cases gk with
  | zero => exact absurd HA.out (by simp [laws_markIntS.l0])
  | succ k1 =>
   have H := HA.out
   clear HA
   simp only [laws_markIntS.l0] at H
   by_cases c3 : x5_1 < (x0_1.length : Int)
   · rw [if_pos c3] at H
     have c3b0 := decide_eq_true c3
     clear c3
     by_cases c4 : 0 ≤ x5_1
     · rw [if_pos c4] at H
       have c4b0 := decide_eq_true c4
       clear c4
       obtain ⟨y134, hy134⟩ : ∃ y_ : List Int, y_ = (x0_1.set (x5_1 : Int).toNat x1_1) := ⟨_, rfl⟩
       replace H : (laws_markIntS.l0 k1 y134 (wrap64 (x1_1 + 1)) (wrap64 (x5_1 + 1))) = some (r1, r2) := by first | (rw [hy134]; with_reducible exact H) | (have H2_ := (Option.bind_some _ _).symm.trans H; rw [hy134]; with_reducible exact H2_) | (have H2_ := (Option.bind_some _ _).symm.trans H; with_reducible exact H2_) | with_reducible exact H | (rw [hy134]; exact H) | exact H
       have Ny134 := Aside0.mk hy134
       clear hy134
       have H' := Aside0.mk H
       clear H
       obtain ⟨Ao6, co6, eo6⟩ := Kd.R_slice HO_0.out
       subst eo6
       have p5 : 0 ≤ (x5_1 : Int) := of_decide_eq_true zA
       have q5 : (x5_1 : Int) < ((x0_1.length : Int) : Int) := of_decide_eq_true zA
       obtain ⟨go5, co5, eo5, gb5, gl5, cl5, HG5⟩ := Kd.R_form HO_0.out (by omega)
       (first | cases eo5 | (injection eo5 with ea_ en_ ec_; (first | subst ea_ | (injection ea_ with ea_; subst ea_)); subst ec_; clear en_))
       have GB5 := Aside0.mk gb5
       have GG5 := Aside0.mk HG5
       clear gb5 gl5 HG5
       have HMgo5 := zM (show (P0_ go5 ∨ w.heap.size ≤ go5) from (HO_0.out.1 _ rfl))
       obtain ⟨hx5_0, hf5_0⟩ := Kd.R_celln 0 HO_0.out (x5_1 : Int) p5 q5
       replace p5 := eq_true p5
       replace q5 := eq_true q5
       have HP7 := Kd.R_putg HO_0.out (x5_1 : Int) x1_1
       go_wp2_with (first | ((with_reducible refine gate_store (t := 3) (p := 15) rfl ?_); refine store_event (t := 3) (p := 15) (v := ?vo_w8) (w1 := (wr.setCell ⟨go5, (x5_1 : Int).toNat, none⟩ (.int .i64 x1_1))) ?hg ?ho ?hn ?hr ?_; (case ho => rfl); (case hg => rfl); (case hn => rfl); (case hr => first | (go_simp; done) | (go_simp; rfl)); intro w8 hw; have hg : wr.grownBy w8 (some go5) := (by rw [hw]; exact HP7.2); have hp_ : Kd.R (Kd.int .i64) 3 w8 w0.heap.size (fun k_ => (P0_ k_ ∨ w.heap.size ≤ k_)) (.slice (some ⟨go5, 0, none⟩) x0_1.length co6) y134 := (by rw [hw, Ny134.out]; exact HP7.1); clear HP7; replace HB := zM ((by rw [hw]; exact below_set (HB.out) GB5.out : Below w0.heap.size w0 w8)); replace HK := zM (Kept.of_grown (S := (fun k_ => P0_ k_)) hg (by repeat (first | (with_reducible first | exact HK.out | apply Kept.alloc | apply Kept.drewN | apply Kept.drew) | exact HK.out)) (fun k_ e_ => (HO_0.out.1 k_ e_))); replace HO_0 := zM (hp_); clear hg hw hp_))
       go_roundg k1
       case measure => have := HK1.out; omega
       case rel => exact ⟨(y134), (wrap64 (x1_1 + 1)), (wrap64 (x5_1 + 1)), (by first | rfl | (simp; done) | (simp [*]; done)), (by first | rfl | (simp; done) | (simp [*]; done)), H', ⟨by have := HK1.out; omega⟩, ⟨zR HO_0.out⟩, ⟨by repeat (first | (with_reducible first | exact HK.out | apply Kept.alloc | apply Kept.drewN | apply Kept.drew) | exact HK.out)⟩, ⟨zB⟩⟩
     · rw [if_neg c4] at H
       exact absurd H (by simp)
   · rw [if_neg c3] at H
     have c3b0 : decide (x5_1 < (x0_1.length : Int)) = false := decide_eq_false c3
     clear c3
     simp only [Option.some.injEq, Prod.mk.injEq] at H
     obtain ⟨rfl, rfl⟩ := H
     obtain ⟨Ao9, co9, eo9⟩ := Kd.R_slice HO_0.out
     subst eo9
     go_wp2
     go_ret
     exact ⟨by first | rfl | (simp [errW_none, errW_some] <;> rfl) | (simp [*, errW_none, errW_some] <;> rfl), by (with_reducible repeat (first | apply Kd.R_alloc | apply Kd.R_drewN | apply Kd.R_drew)); exact HO_0.out, by repeat (first | (with_reducible first | exact HB.out | apply below_alloc | apply pw_below_drewN | apply below_drew1) | exact HB.out), by repeat (first | (with_reducible first | exact HK.out | apply Kept.alloc | apply Kept.drewN | apply Kept.drew) | exact HK.out)⟩

end Go.Proofs.Ytadjbmcfgjmhkaa.P
namespace Go.Proofs.Ytadjbmcfgjmhkaa.P
open Go.RowKit Go.Proofs.YtadjbmcfgjmhkaaW.PrintWords Go.Proofs.YtadjbmcfgjmhkaaW.PrintLast Go.Proofs.YtadjbmcfgjmhkaaW.PrintMore
set_option linter.unusedVariables false
set_option linter.unusedSimpArgs false

def seqS : Nat → Int → List Int
  | 0, _ => []
  | n + 1, k => k :: seqS n (wrap64 (k + 1))
def endS : Nat → Int → Int
  | 0, k => k
  | n + 1, k => endS n (wrap64 (k + 1))
theorem markS_loop (d : Nat) : ∀ (done rest : List Int) (c : Int), rest.length = d → done.length + d ≤ 9223372036854775807 →
    ∃ k, laws_markIntS.l0 k (done ++ rest) c (done.length : Int) = some (endS d c, done ++ seqS d c) := by
  induction d with
  | zero =>
    intro done rest c h0 h1
    have : rest = [] := List.eq_nil_of_length_eq_zero h0
    subst this
    refine ⟨1, ?_⟩
    rw [laws_markIntS.l0, if_neg (by simp)]
    rfl
  | succ d ih =>
    intro done rest c h0 h1
    obtain ⟨x, t, rfl⟩ : ∃ x t, rest = x :: t := by
      cases rest with
      | nil => simp at h0
      | cons x t => exact ⟨x, t, rfl⟩
    have h2 : t.length = d := by simpa using h0
    obtain ⟨k, hk⟩ := ih (done ++ [c]) t (wrap64 (c + 1)) h2 (by rw [List.length_append, List.length_singleton]; omega)
    refine ⟨k + 1, ?_⟩
    have e : (done ++ x :: t).set ((done.length : Int)).toNat c = (done ++ [c]) ++ t := by
      rw [Int.toNat_natCast]
      simp
    have hw : wrap64 ((done.length : Int) + 1) = ((done ++ [c]).length : Int) := by
      rw [List.length_append, List.length_singleton]
      unfold wrap64
      omega
    rw [laws_markIntS.l0, if_pos (by simp; omega), if_pos (by omega), e, hw, hk]
    simp only [seqS, endS, List.append_assoc, List.singleton_append]
theorem markS_some (l : List Int) (c : Int) (hl : l.length ≤ 9223372036854775807) : ∃ k, laws_markIntS.f k l c = some (endS l.length c, seqS l.length c) := by
  obtain ⟨k, hk⟩ := markS_loop l.length [] l c rfl (by simpa using hl)
  exact ⟨k, by unfold laws_markIntS.f; simpa only [List.nil_append, List.length_nil, Int.natCast_zero] using hk⟩
def markSS : List (List Int) → Int → Int × List (List Int)
  | [], k => (k, [])
  | l :: t, k => ((markSS t (endS l.length k)).1, seqS l.length k :: (markSS t (endS l.length k)).2)
def laws_markIntSS.f (l0 : List (List Int)) (a1 : Int) : Option (Int × List (List Int)) := some (markSS l0 a1)
theorem set_midS {α : Type} (done : List α) (l : List α) (m : Nat) (hd : done.length = m) (hm : m < l.length) (x : α) : (done ++ l.drop m).set m x = (done ++ [x]) ++ l.drop (m + 1) := by
  subst hd
  rw [List.drop_eq_getElem_cons hm, List.set_append_right _ _ (Nat.le_refl _), Nat.sub_self, List.set_cons_zero, List.append_assoc, List.singleton_append]
set_option maxRecDepth 100000 in
set_option maxHeartbeats 2000000 in
theorem laws_markIntSS.calls (P0_ : Nat → Prop) (u9000_ : Value) (l0 : List (List Int)) (a1 : Int) (r1 : Int) (r2 : List (List Int)) (w0 w : World) (hB : Below w0.heap.size w0 w) (ho0 : Kd.S (Kd.slice 3 (Kd.int .i64)) 39 w w0.heap.size P0_ u9000_ l0) (h : laws_markIntSS.f l0 a1 = some (r1, r2)) :
    Calls Try.prog 19 #[u9000_, .int .i64 a1] w fun e w' => e = .returned (.int .i64 r1) ∧ Kd.S (Kd.slice 3 (Kd.int .i64)) 39 w' w0.heap.size (fun k_ => (P0_ k_ ∨ w.heap.size ≤ k_)) u9000_ r2 ∧ Below w0.heap.size w0 w' ∧ Kept w w' (fun k_ => P0_ k_) := by
  have HO := Aside0.mk (show Kd.S (Kd.slice 3 (Kd.int .i64)) 39 w w0.heap.size (fun k_ => (P0_ k_ ∨ w.heap.size ≤ k_)) u9000_ l0 from Kd.S_mono ho0 (fun k_ hk => (.inl hk)))
  unfold laws_markIntSS.f at h
  have H' := Aside0.mk (Option.some.inj h)
  obtain ⟨A, c, e0⟩ := Kd.S_slice ho0
  have HL := Aside0.mk (show l0.length ≤ 9223372036854775807 by
    obtain ⟨A', c', _, _, hc⟩ := Kd.S_reads ho0
    exact hc.2.1)
  have HB0 := Aside0.mk hB
  clear h hB ho0
  subst e0
  go_enter Try.func19, Try.ntmps19
  go_wp2
  go_loopg [5, 1, 6] (l0.length + 1) (fun kq v5 v1 v6 w' => ∃ (m : Nat) (kk : Int) (done : List (List Int)), v5 = .int .i64 m ∧ v1 = .int .i64 kk ∧ Aside0 (m ≤ l0.length) ∧ Aside0 (kq = l0.length - m + 1) ∧ Aside0 (done.length = m) ∧ Aside0 ((markSS (l0.drop m) kk).1 = r1 ∧ done ++ (markSS (l0.drop m) kk).2 = r2) ∧ Aside0 (Kd.S (Kd.slice 3 (Kd.int .i64)) 39 w' w0.heap.size (fun k_ => (P0_ k_ ∨ w.heap.size ≤ k_)) (.slice A l0.length c) (done ++ l0.drop m)) ∧ Aside0 (Below w0.heap.size w0 w') ∧ Aside0 (Kept w w' (fun k_ => P0_ k_)))
  case atStart => exact ⟨0, a1, [], rfl, rfl, ⟨Nat.zero_le _⟩, ⟨by omega⟩, ⟨rfl⟩, ⟨by rw [List.drop_zero, H'.out]; exact ⟨rfl, rfl⟩⟩, ⟨by rw [List.drop_zero]; exact HO.out⟩, HB0, ⟨Kept.refl _ _⟩⟩
  case round =>
    clear H' HO HB0
    obtain ⟨m, kk, done, rfl, rfl, HM, HK1, HD, HA, HO, HB, HK⟩ := hrel
    have HN := Aside0.mk (show (done ++ l0.drop m).length = l0.length by rw [List.length_append, List.length_drop, HD.out]; have := HM.out; omega)
    by_cases c1 : m < l0.length
    · have q1 : (m : Int) < (l0.length : Int) := by omega
      obtain ⟨g, cap, eg, gb, gl, HG⟩ := Kd.S_form HO.out (by rw [HN.out]; omega)
      rw [HN.out] at eg
      injection eg with eA _ ec
      subst eA; subst ec
      obtain ⟨oki, cs, hcl, hM, hcc, hoki, HH⟩ := Kd.S_lend HO.out ([] : List Int) (m : Int) (by omega) q1
      obtain ⟨v, rfl, hR⟩ := hM
      have hrow : (done ++ l0.drop m).getD (m : Int).toNat [] = l0[m] := by
        rw [Int.toNat_natCast, List.getD_eq_getElem?_getD, List.getElem?_append_right (by rw [HD.out]; exact Nat.le_refl _), HD.out, Nat.sub_self, List.getElem?_drop, Nat.add_zero, List.getElem?_eq_getElem c1, Option.getD_some]
      rw [hrow] at hR
      have hx0 := hcc 0 _ rfl
      rw [Int.toNat_natCast, show (Kd.slice 3 (Kd.int .i64)).sz = 1 from rfl, Nat.mul_one, Nat.add_zero] at hx0
      have hll : (l0[m]).length ≤ 9223372036854775807 := by
        obtain ⟨A', c', _, _, hc⟩ := Kd.R_reads hR
        exact hc.2.1
      obtain ⟨kf, hf⟩ := markS_some l0[m] kk hll
      have HF := Aside0.mk hf
      have HRo := Aside0.mk hR
      have HHo := Aside0.mk HH
      have HOk := Aside0.mk hoki
      have HE := Aside0.mk (set_midS done l0 m HD.out c1 (seqS (l0[m]).length kk))
      have H2 : Aside0 ((markSS (l0.drop (m + 1)) (endS (l0[m]).length kk)).1 = r1 ∧ (done ++ [seqS (l0[m]).length kk]) ++ (markSS (l0.drop (m + 1)) (endS (l0[m]).length kk)).2 = r2) := ⟨by
        have e_ := HA.out
        rw [List.drop_eq_getElem_cons c1] at e_
        simp only [markSS] at e_
        rw [List.append_assoc, List.singleton_append]
        exact e_⟩
      obtain ⟨Av, cv, ev⟩ := Kd.R_slice hR
      subst ev
      generalize hk2 : endS (l0[m]).length kk = k2 at HF H2
      generalize hs2 : seqS (l0[m]).length kk = s2 at HF H2 HE
      generalize l0[m] = row at HF HRo hx0 HHo
      clear HA hcc hcl gl HG gb hR HH hoki hf hk2 hs2 hrow hll
      have c1b : decide ((m : Int) < (l0.length : Int)) = true := decide_eq_true q1
      have c1c : decide (m < l0.length) = true := decide_eq_true c1
      have p1 : (0 : Int) ≤ (m : Int) := by omega
      have hw1 : (m : Int) + 1 ≤ 9223372036854775807 := by have := HL.out; omega
      replace p1 := eq_true p1
      replace q1 := eq_true q1
      clear c1
      go_wp2_with (go_at_call 24; refine (laws_markIntS.calls kf oki _ row kk _ _ w0 wr HB.out HRo.out HF.out).mono ?_; rintro e w2 ⟨rfl, hy, hb, hkp⟩; have HS := Aside0.mk (Kd.H_back (Kd.H_kept HHo.out hkp (fun _ _ hn => hn)) (x' := s2) ⟨_, rfl, Kd.R_reok rfl hy (fun k_ e_ => HRo.out.1 k_ e_)⟩ (fun _ hk => hk)); have HB2 := Aside0.mk hb; have HK2 : Aside0 (Kept w w2 (fun k_ => P0_ k_)) := ⟨⟨Nat.le_trans HK.out.1 hkp.1, fun i hi hn => (hkp.2 i (Nat.lt_of_lt_of_le hi HK.out.1) (fun ho => (HOk.out i ho).1.elim hn (fun h3 => by omega))).trans (HK.out.2 i hi hn)⟩⟩; clear hy hb hkp)
      go_roundg (l0.length - m)
      case measure => have := HK1.out; have := HM.out; omega
      case rel => exact ⟨m + 1, _, done ++ [s2], by first | rfl | (simp; done) | go_num, rfl, ⟨by have := of_eq_true q1; omega⟩, ⟨by have := of_eq_true q1; omega⟩, ⟨by rw [List.length_append, HD.out]; rfl⟩, H2, ⟨by rw [← HE.out]; rw [← Int.toNat_natCast m]; exact HS.out⟩, HB2, HK2⟩
    · have q1 : ¬ (m : Int) < (l0.length : Int) := by omega
      have c1b : decide ((m : Int) < (l0.length : Int)) = false := decide_eq_false q1
      have c1c : decide (m < l0.length) = false := decide_eq_false c1
      have H3 : Aside0 (kk = r1 ∧ done ++ l0.drop m = r2) := ⟨by
        have e_ := HA.out
        rw [List.drop_eq_nil_of_le (show l0.length ≤ m by omega)] at e_ ⊢
        exact e_⟩
      clear HA c1 q1
      go_wp2
      go_ret
      exact ⟨by have e_ := H3.out.1; subst e_; rfl, by rw [← H3.out.2]; exact HO.out, HB.out, HK.out⟩
end Go.Proofs.Ytadjbmcfgjmhkaa.P
namespace Go.Proofs.Ytadjbmcfgjmhkaa.P
open Go.RowKit Go.Proofs.YtadjbmcfgjmhkaaW.PrintWords Go.Proofs.YtadjbmcfgjmhkaaW.PrintLast Go.Proofs.YtadjbmcfgjmhkaaW.PrintMore
attribute [local go_sem] max2_int min2_int max_two min_two max_three min_three max_four min_four   -- for this text's walks alone
set_option linter.unusedVariables false
set_option linter.unusedSimpArgs false

/-! ### laws_heldIntS: function 25 -/
def laws_heldIntS.l0 : Nat → List Int → Int → Int → Option (Int)
 | 0, _, _, _ => none
 | k + 1, x0, x1, x5 => if x5 < (x0.length : Int) then (if 0 ≤ x5 then (if (rd x0 x5) = x1 then (laws_heldIntS.l0 k x0 (wrap64 (x1 + 1)) (wrap64 (x5 + 1))) else (some (-1))) else (none)) else (some x1)
def laws_heldIntS.f (k : Nat) (l0 : List Int) (a1 : Int) : Option (Int) := laws_heldIntS.l0 k l0 a1 0
set_option maxHeartbeats 8000000 in
set_option maxRecDepth 100000 in
theorem laws_heldIntS.calls (k : Nat) (A0 : Option Addr) (c0 : Nat) (l0 : List Int) (a1 : Int) (r : Int) (w : World) (hr0 : Kd.C (Kd.int .i64) w A0 l0.length l0) (hc0 : l0.length ≤ c0) (h : laws_heldIntS.f k l0 a1 = some r) :
 Calls Try.prog 25 #[.slice A0 l0.length c0, .int .i64 a1] w fun e w' => e = .returned (.int .i64 r) ∧ Drawn0 w w' := by
 have HR0 := Aside0.mk hr0
 have HC0 := Aside0.mk hc0
 clear hr0 hc0
 have H : (laws_heldIntS.l0 k l0 a1 0) = some r := h
 clear h
 have H' := Aside0.mk H
 clear H
 go_enter Try.func25, Try.ntmps25
 go_wp2
 go_loopg [1, 5] k (fun kq v1 v5 w' => ∃ (x1_1 : Int) (x5_1 : Int), v1 = .int .i64 x1_1 ∧ v5 = .int .i64 x5_1 ∧ Aside0 (laws_heldIntS.l0 kq l0 x1_1 x5_1 = some r) ∧ Aside0 (kq ≤ k) ∧ Drawn0 w w')
 case atStart => exact ⟨(a1), (0), (by first | rfl | (simp; done) | (simp [*]; done)), (by first | rfl | (simp; done) | (simp [*]; done)), H', ⟨Nat.le_refl _⟩, by repeat (first | exact Drawn0.refl _ | apply Drawn0.step)⟩
 case round =>
  clear H'
  try clear c2
  try clear p2
  obtain ⟨x1_1, x5_1, rfl, rfl, HA, HK1, ⟨m1, rfl⟩⟩ := hrel
  cases gk with
  | zero => exact absurd HA.out (by simp [laws_heldIntS.l0])
  | succ k1 =>
   have H := HA.out
   clear HA
   simp only [laws_heldIntS.l0] at H
   by_cases c3 : x5_1 < (l0.length : Int)
   · rw [if_pos c3] at H
     have c3b0 := decide_eq_true c3
     clear c3
     by_cases c4 : 0 ≤ x5_1
     · rw [if_pos c4] at H
       have c4b0 := decide_eq_true c4
       clear c4
       by_cases c5 : (rd l0 x5_1) = x1_1
       · rw [if_pos c5] at H
         have c5b0 : ((rd l0 x5_1) == x1_1) = true := beq_iff_eq.mpr c5
         have c5b1 : ((rd l0 x5_1) != x1_1) = false := bne_eq_false_iff_eq.mpr c5
         clear c5
         have H' := Aside0.mk H
         clear H
         have p135 : 0 ≤ (x5_1 : Int) := of_decide_eq_true zA
         have q135 : x5_1 < (l0.length : Int) := of_decide_eq_true zA
         obtain ⟨ad135, e135, hx135_0⟩ := Kd.at_int HR0.out x5_1 p135 q135
         cases e135
         replace p135 := eq_true p135
         replace q135 := eq_true q135
         go_wp2
         go_roundg k1
         case measure => have := HK1.out; omega
         case rel => exact ⟨(wrap64 (x1_1 + 1)), (wrap64 (x5_1 + 1)), (by first | rfl | (simp; done) | (simp [*]; done)), (by first | rfl | (simp; done) | (simp [*]; done)), H', ⟨by have := HK1.out; omega⟩, by repeat (first | exact Drawn0.refl _ | apply Drawn0.step)⟩
       · rw [if_neg c5] at H
         have c5b0 : ((rd l0 x5_1) == x1_1) = false := beq_eq_false_iff_ne.mpr c5
         have c5b1 : ((rd l0 x5_1) != x1_1) = true := bne_iff_ne.mpr c5
         obtain rfl := Option.some.inj H
         have p135 : 0 ≤ (x5_1 : Int) := of_decide_eq_true zA
         have q135 : x5_1 < (l0.length : Int) := of_decide_eq_true zA
         obtain ⟨ad135, e135, hx135_0⟩ := Kd.at_int HR0.out x5_1 p135 q135
         cases e135
         replace p135 := eq_true p135
         replace q135 := eq_true q135
         go_wp2
         go_ret
         exact ⟨by first | rfl | (simp; done) | (simp [*]; done), by repeat (first | exact Drawn0.refl _ | apply Drawn0.step)⟩
     · rw [if_neg c4] at H
       exact absurd H (by simp)
   · rw [if_neg c3] at H
     have c3b0 : decide (x5_1 < (l0.length : Int)) = false := decide_eq_false c3
     clear c3
     obtain rfl := Option.some.inj H
     go_wp2
     go_ret
     exact ⟨by first | rfl | (simp; done) | (simp [*]; done), by repeat (first | exact Drawn0.refl _ | apply Drawn0.step)⟩

end Go.Proofs.Ytadjbmcfgjmhkaa.P
namespace Go.Proofs.Ytadjbmcfgjmhkaa.P
open Go.RowKit Go.Proofs.YtadjbmcfgjmhkaaW.PrintWords Go.Proofs.YtadjbmcfgjmhkaaW.PrintLast Go.Proofs.YtadjbmcfgjmhkaaW.PrintMore
attribute [local go_sem] max2_int min2_int max_two min_two max_three min_three max_four min_four   -- for this text's walks alone
set_option linter.unusedVariables false
set_option linter.unusedSimpArgs false

/-! ### laws_heldIntSS: function 20 -/
def laws_heldIntSS.l0 : Nat → List (List Int) → Int → Int → Option (Int)
 | 0, _, _, _ => none
 | k + 1, x0, x1, x5 => if x5 < (x0.length : Int) then (if 0 ≤ x5 then ((laws_heldIntS.f k (rd_L2 x0 x5) x1).bind fun t137 => (if t137 < 0 then (some (-1)) else (laws_heldIntSS.l0 k x0 t137 (wrap64 (x5 + 1))))) else (none)) else (some x1)
def laws_heldIntSS.f (k : Nat) (l0 : List (List Int)) (a1 : Int) : Option (Int) := laws_heldIntSS.l0 k l0 a1 0
set_option maxHeartbeats 8000000 in
set_option maxRecDepth 100000 in
theorem laws_heldIntSS.calls (k : Nat) (A0 : Option Addr) (c0 : Nat) (l0 : List (List Int)) (a1 : Int) (r : Int) (w : World) (hr0 : Kd.C (Kd.slice 3 (Kd.int .i64)) w A0 l0.length l0) (hc0 : l0.length ≤ c0) (h : laws_heldIntSS.f k l0 a1 = some r) :
 Calls Try.prog 20 #[.slice A0 l0.length c0, .int .i64 a1] w fun e w' => e = .returned (.int .i64 r) ∧ Drawn0 w w' := by
 have HR0 := Aside0.mk hr0
 have HC0 := Aside0.mk hc0
 clear hr0 hc0
 have H : (laws_heldIntSS.l0 k l0 a1 0) = some r := h
 clear h
 have H' := Aside0.mk H
 clear H
 go_enter Try.func20, Try.ntmps20
 go_wp2
 go_loopg [1, 5] k (fun kq v1 v5 w' => ∃ (x1_1 : Int) (x5_1 : Int), v1 = .int .i64 x1_1 ∧ v5 = .int .i64 x5_1 ∧ Aside0 (laws_heldIntSS.l0 kq l0 x1_1 x5_1 = some r) ∧ Aside0 (kq ≤ k) ∧ Drawn0 w w')
 case atStart => exact ⟨(a1), (0), (by first | rfl | (simp; done) | (simp [*]; done)), (by first | rfl | (simp; done) | (simp [*]; done)), H', ⟨Nat.le_refl _⟩, by repeat (first | exact Drawn0.refl _ | apply Drawn0.step)⟩
 case round =>
  clear H'
  try clear c2
  try clear p2
  obtain ⟨x1_1, x5_1, rfl, rfl, HA, HK1, ⟨m1, rfl⟩⟩ := hrel
  cases gk with
  | zero => exact absurd HA.out (by simp [laws_heldIntSS.l0])
  | succ k1 =>
   have H := HA.out
   clear HA
   simp only [laws_heldIntSS.l0] at H
   by_cases c3 : x5_1 < (l0.length : Int)
   · rw [if_pos c3] at H
     have c3b0 := decide_eq_true c3
     clear c3
     by_cases c4 : 0 ≤ x5_1
     · rw [if_pos c4] at H
       have c4b0 := decide_eq_true c4
       clear c4
       replace H := Option.bind_eq_some_iff.mp H
       obtain ⟨t137, A50, H⟩ := H
       have A5 := Aside0.mk A50
       clear A50
       by_cases c6 : t137 < 0
       · rw [if_pos c6] at H
         have c6b0 := decide_eq_true c6
         clear c6
         obtain rfl := Option.some.inj H
         have p136 : 0 ≤ (x5_1 : Int) := of_decide_eq_true zA
         have q136 : x5_1 < (l0.length : Int) := of_decide_eq_true zA
         obtain ⟨ad136, A136_0, c136_0, e136, hx136_0, hl136_0, hi136_0⟩ := at_L2 HR0.out x5_1 p136 q136
         cases e136
         have HR136_0 := Aside0.mk hi136_0
         have HC136_0 := Aside0.mk hl136_0
         clear hi136_0 hl136_0
         replace p136 := eq_true p136
         replace q136 := eq_true q136
         go_wp2_with (first | ((with_reducible refine gate_callee (f := 25) rfl ?_); refine zc 17 Try.func25 #[.slice A136_0 (rd_L2 l0 x5_1).length c136_0, .int .i64 x1_1] ?_; (with_reducible refine (laws_heldIntS.calls k1 _ _ (rd_L2 l0 x5_1) x1_1 t137 _ ?side1 ?side2 A5.out).mono ?_); (case side1 => exact zC HR136_0.out); (case side2 => exact HC136_0.out); rintro e w' ⟨rfl, ⟨nd, rfl⟩⟩; refine ⟨_, rfl, ?_⟩))
         go_ret
         exact ⟨by first | rfl | (simp; done) | (simp [*]; done), by repeat (first | exact Drawn0.refl _ | apply Drawn0.step)⟩
       · rw [if_neg c6] at H
         have c6b0 : decide (t137 < 0) = false := decide_eq_false c6
         clear c6
         have H' := Aside0.mk H
         clear H
         have p136 : 0 ≤ (x5_1 : Int) := of_decide_eq_true zA
         have q136 : x5_1 < (l0.length : Int) := of_decide_eq_true zA
         obtain ⟨ad136, A136_0, c136_0, e136, hx136_0, hl136_0, hi136_0⟩ := at_L2 HR0.out x5_1 p136 q136
         cases e136
         have HR136_0 := Aside0.mk hi136_0
         have HC136_0 := Aside0.mk hl136_0
         clear hi136_0 hl136_0
         replace p136 := eq_true p136
         replace q136 := eq_true q136
         go_wp2_with (first | ((with_reducible refine gate_callee (f := 25) rfl ?_); refine zc 17 Try.func25 #[.slice A136_0 (rd_L2 l0 x5_1).length c136_0, .int .i64 x1_1] ?_; (with_reducible refine (laws_heldIntS.calls k1 _ _ (rd_L2 l0 x5_1) x1_1 t137 _ ?side1 ?side2 A5.out).mono ?_); (case side1 => exact zC HR136_0.out); (case side2 => exact HC136_0.out); rintro e w' ⟨rfl, ⟨nd, rfl⟩⟩; refine ⟨_, rfl, ?_⟩))
         go_roundg k1
         case measure => have := HK1.out; omega
         case rel => exact ⟨(t137), (wrap64 (x5_1 + 1)), (by first | rfl | (simp; done) | (simp [*]; done)), (by first | rfl | (simp; done) | (simp [*]; done)), H', ⟨by have := HK1.out; omega⟩, by repeat (first | exact Drawn0.refl _ | apply Drawn0.step)⟩
     · rw [if_neg c4] at H
       exact absurd H (by simp)
   · rw [if_neg c3] at H
     have c3b0 : decide (x5_1 < (l0.length : Int)) = false := decide_eq_false c3
     clear c3
     obtain rfl := Option.some.inj H
     go_wp2
     go_ret
     exact ⟨by first | rfl | (simp; done) | (simp [*]; done), by repeat (first | exact Drawn0.refl _ | apply Drawn0.step)⟩

end Go.Proofs.Ytadjbmcfgjmhkaa.P
namespace Go.Proofs.Ytadjbmcfgjmhkaa.P
open Go.RowKit Go.Proofs.YtadjbmcfgjmhkaaW.PrintWords Go.Proofs.YtadjbmcfgjmhkaaW.PrintLast Go.Proofs.YtadjbmcfgjmhkaaW.PrintMore
set_option linter.unusedVariables false
section
variable {α : Type} {d : Kd α} {e base : Nat} {ok S : Nat → Prop} {w W W1 : World} {v : Value} {xs : List α} {g : Nat} {o : Obj}
theorem uR (hB : Below w.heap.size w W) (h : d.R e W1 W.heap.size (fun _ => True) v xs) : Aside0 (d.R e W1 w.heap.size (fun k => W.heap.size ≤ k ∧ k < W1.heap.size) v xs) :=
  ⟨Kd.R_mono (Kd.R_lower (Kd.R_bound h) (below_size hB)) (fun k hk => ⟨hk.2.1, hk.2.2.1⟩)⟩
theorem uS (hB : Below w.heap.size w W) (h : Kd.S d e W1 W.heap.size (fun _ => True) v xs) : Aside0 (Kd.S d e W1 w.heap.size (fun k => W.heap.size ≤ k ∧ k < W1.heap.size) v xs) :=
  ⟨Kd.S_mono (Kd.S_lower (Kd.S_bound h) (below_size hB)) (fun k hk => ⟨hk.2.1, hk.2.2.1⟩)⟩
theorem uN (hB : Below w.heap.size w W) (h : Kd.N d e W1 W.heap.size (fun k_ => W.heap.size ≤ k_) v xs) : Aside0 (Kd.N d e W1 w.heap.size (fun k => W.heap.size ≤ k ∧ k < W1.heap.size) v xs) :=
  ⟨Kd.N_mono (Kd.N_lower (Kd.N_bound h) (below_size hB)) (fun k hk => ⟨hk.1, hk.2⟩)⟩
theorem uNb (h : Aside0 (Kd.N d e W base ok v xs)) (hb : Below W.heap.size W W1) : Aside0 (Kd.N d e W1 base ok v xs) := ⟨Kd.N_below h.out hb⟩
theorem uNk (h : Aside0 (Kd.N d e W base ok v xs)) (hk : Kept W W1 S) (hne : ∀ k, ok k → ¬ S k) : Aside0 (Kd.N d e W1 base ok v xs) := ⟨Kd.N_kept h.out hk hne⟩
theorem uRb (h : Aside0 (d.R e W base ok v xs)) (hb : Below W.heap.size W W1) : Aside0 (d.R e W1 base ok v xs) := ⟨Kd.R_below h.out hb⟩
theorem uSb (h : Aside0 (Kd.S d e W base ok v xs)) (hb : Below W.heap.size W W1) : Aside0 (Kd.S d e W1 base ok v xs) := ⟨Kd.S_below h.out hb⟩
theorem uKb (h : Aside0 (W.heap[g]? = some o)) (hb : Below W.heap.size W W1) : Aside0 (W1.heap[g]? = some o) := ⟨blk_below h.out hb⟩
theorem uRk (h : Aside0 (d.R e W base ok v xs)) (hk : Kept W W1 S) (hne : ∀ k, ok k → ¬ S k) : Aside0 (d.R e W1 base ok v xs) := ⟨Kd.R_kept h.out hk hne⟩
theorem uSk (h : Aside0 (Kd.S d e W base ok v xs)) (hk : Kept W W1 S) (hne : ∀ k, ok k → ¬ S k) : Aside0 (Kd.S d e W1 base ok v xs) := ⟨Kd.S_kept h.out hk hne⟩
theorem uKk (h : Aside0 (W.heap[g]? = some o)) (hk : Kept W W1 S) (hne : ¬ S g) : Aside0 (W1.heap[g]? = some o) := ⟨blk_kept h.out hk hne⟩
/-- A struct of two cells is stored into the call's own block. -/
theorem uBox {P : Program} {f : FuncId} {args : Array Value} {Q : Ending → World → Prop} {t : TypeId} {x y a b : Value} (hb : Aside0 (W.heap[g]? = some (.cells #[x, y] t (0, 0)))) (hB : Aside0 (Below w.heap.size w W)) (hg : w.heap.size ≤ g)
    (h : ∀ W', Aside0 (W'.heap[g]? = some (.cells #[a, b] t (0, 0))) → Kept W W' (fun k => k = g) → Aside0 (Below w.heap.size w W') → Calls P f args W' Q) : Calls P f args ((W.setCell ⟨g, 0, none⟩ a).setCell ⟨g, 1, none⟩ b) Q :=
  h _ ⟨blk_put (cs := #[a, y]) (blk_put (cs := #[x, y]) hb.out 0 a rfl) 1 b rfl⟩ (Kept.setCell (Kept.setCell (Kept.refl W (fun k => k = g)) (p := ⟨g, 0, none⟩) (.inl rfl) a) (p := ⟨g, 1, none⟩) (.inl rfl) b) ⟨below_set (below_set hB.out hg) hg⟩
theorem uArgs {P : Program} {f : FuncId} {args args' : Array Value} {Q : Ending → World → Prop} (h : args = args') (k : Calls P f args' W Q) : Calls P f args W Q := h ▸ k
end
end Go.Proofs.Ytadjbmcfgjmhkaa.P
namespace Go.Proofs.Ytadjbmcfgjmhkaa.P
open Go.RowKit Go.Proofs.YtadjbmcfgjmhkaaW.PrintWords Go.Proofs.YtadjbmcfgjmhkaaW.PrintLast Go.Proofs.YtadjbmcfgjmhkaaW.PrintMore
set_option linter.unusedVariables false
set_option linter.unusedSimpArgs false
set_option maxRecDepth 100000 in
set_option maxHeartbeats 4000000 in
theorem laws_FnExactIndependentSets.exit0 (a0_0 : Int) (A0_1 : Option Addr) (ca0_1 : Nat) (l0_1 : List (S70)) (a1 : Int) (t0 : Int) (w : World) (hr0_1 : Kd.C k70 w A0_1 l0_1.length l0_1) (hc0_1 : l0_1.length ≤ ca0_1) (c0 : t0 < 0) (h0 : laws_szGraph.f a0_0 l0_1 1048576 = some t0) :
    Calls Try.prog 4 #[.agg #[.int .i64 a0_0, .slice A0_1 l0_1.length ca0_1], .int .i64 a1] w fun e w' => e = .returned (.bool true) ∧ Below w.heap.size w w' := by
  have hu24 := Try.underlying24
  have hu28 := Try.underlying28
  have HR0_1 := zM hr0_1; clear hr0_1
  have HC0_1 := zM hc0_1; clear hc0_1
  have HB := zM (Below.refl w.heap.size w)
  have H0 := zM h0; clear h0
  have c0b : decide (t0 < 0) = true := decide_eq_true c0
  clear c0
  go_enter Try.func4, Try.ntmps4
  go_wp2_with (first
    | ((with_reducible refine gate_dst (N := 2) rfl ?_); refine ze 2 #[.int .i64 a0_0, .slice A0_1 l0_1.length ca0_1] 24 ?_; intro gb2 hg w1 hbox hb; have HG2 := zM hg; have HW2 := zM (show w.heap.size ≤ gb2 by rw [hg]; exact below_size HB.out); have HL2 := zM (blk_lt hbox); clear hg; have HS1 := zM hb.size; replace HB := zM (below_step HB.out hb); have BK2 := zM hbox; clear hbox hb; have hc2_0 := zy BK2 0; have hf2_0 := blk_frozen BK2.out 0; have hc2_1 := zy BK2 1; have hf2_1 := blk_frozen BK2.out 1)
    | (have hst_ : Aside0 (Below w.heap.size w w1) := HB; clear hst_; go_at_call 10; refine (laws_szGraph.calls a0_0 _ _ l0_1 1048576 t0 _ ?side1 ?side2 H0.out).mono ?_; (case side1 => exact zC (Kd.C_below HR0_1.out HB.out)); (case side2 => exact HC0_1.out); rintro e w2 ⟨rfl, hb⟩; replace BK2 := uKb BK2 hb; have HS2 := zM hb.size; replace HB := zM (below_step HB.out hb); clear hb; replace hc2_0 := zy BK2 0; replace hf2_0 := blk_frozen BK2.out 0; replace hc2_1 := zy BK2 1; replace hf2_1 := blk_frozen BK2.out 1))
  go_ret
  exact ⟨rfl, HB.out⟩
set_option maxRecDepth 100000 in
set_option maxHeartbeats 4000000 in
theorem laws_FnExactIndependentSets.walk (a0_0 : Int) (A0_1 : Option Addr) (ca0_1 : Nat) (l0_1 : List (S70)) (a1 : Int) (k1 k2 k3 k4 k5 k8 : Nat) (t0 : Int) (q0 : List (List Int)) (q1 : Bool) (kk0 : Int) (mk0_0 : List (S70)) (kk1 : Int) (mk1_0 : List (List Int)) (w : World) (hr0_1 : Kd.C k70 w A0_1 l0_1.length l0_1) (hc0_1 : l0_1.length ≤ ca0_1) (c0 : ¬ (t0 < 0)) (h0 : laws_szGraph.f a0_0 l0_1 1048576 = some t0) (h1 : laws_toGraph.f k1 a0_0 l0_1 = some (a0_0, l0_1)) (h2 : spec_IndependentSets.f k2 a0_0 l0_1 a1 = some (q0, q1)) (h3 : impl_IndependentSets.f k3 a0_0 l0_1 a1 = some (q0, q1)) (h4 : laws_eqIntSS.f k4 q0 q0 = some true) (h5 : laws_eqGraph.f k5 a0_0 l0_1 a0_0 l0_1 = some true) (h6 : laws_markGraph.f a0_0 l0_1 1 = some (kk0, mk0_0)) (h7 : laws_markIntSS.f q0 1 = some (kk1, mk1_0)) (h8 : laws_heldIntSS.f k8 mk1_0 1 = some kk1) (nkk0 : ¬ (kk0 < 0)) (nkk1 : ¬ (kk1 < 0)) :
    Calls Try.prog 4 #[.agg #[.int .i64 a0_0, .slice A0_1 l0_1.length ca0_1], .int .i64 a1] w fun e w' => e = .returned (.bool true) ∧ Below w.heap.size w w' := by
  have hu24 := Try.underlying24
  have hu28 := Try.underlying28
  have HR0_1 := zM hr0_1; clear hr0_1
  have HC0_1 := zM hc0_1; clear hc0_1
  have HB := zM (Below.refl w.heap.size w)
  have H0 := zM h0; clear h0
  have H1 := zM h1; clear h1
  have H2 := zM h2; clear h2
  have H3 := zM h3; clear h3
  have H4 := zM h4; clear h4
  have H5 := zM h5; clear h5
  have H6 := zM h6; clear h6
  have H7 := zM h7; clear h7
  have H8 := zM h8; clear h8
  have c0b : decide (t0 < 0) = false := decide_eq_false c0
  clear c0
  have nkk0b : decide (kk0 < 0) = false := decide_eq_false nkk0
  clear nkk0
  have nkk1b : decide (kk1 < 0) = false := decide_eq_false nkk1
  clear nkk1
  go_enter Try.func4, Try.ntmps4
  go_upto_region 10 with (first
    | ((with_reducible refine gate_dst (N := 2) rfl ?_); refine ze 2 #[.int .i64 a0_0, .slice A0_1 l0_1.length ca0_1] 24 ?_; intro gb2 hg w1 hbox hb; have HG2 := zM hg; have HW2 := zM (show w.heap.size ≤ gb2 by rw [hg]; exact below_size HB.out); have HL2 := zM (blk_lt hbox); clear hg; have HS1 := zM hb.size; replace HB := zM (below_step HB.out hb); have BK2 := zM hbox; clear hbox hb; have hc2_0 := zy BK2 0; have hf2_0 := blk_frozen BK2.out 0; have hc2_1 := zy BK2 1; have hf2_1 := blk_frozen BK2.out 1)
    | (have hst_ : Aside0 (Below w.heap.size w w1) := HB; clear hst_; go_at_call 10; refine (laws_szGraph.calls a0_0 _ _ l0_1 1048576 t0 _ ?side1 ?side2 H0.out).mono ?_; (case side1 => exact zC (Kd.C_below HR0_1.out HB.out)); (case side2 => exact HC0_1.out); rintro e w2 ⟨rfl, hb⟩; replace BK2 := uKb BK2 hb; have HS2 := zM hb.size; replace HB := zM (below_step HB.out hb); clear hb; replace hc2_0 := zy BK2 0; replace hf2_0 := blk_frozen BK2.out 0; replace hc2_1 := zy BK2 1; replace hf2_1 := blk_frozen BK2.out 1)
    | (have hst_ : Aside0 (Below w.heap.size w w2) := HB; clear hst_; go_at_call 12; refine (laws_toGraph.calls k1 a0_0 _ _ l0_1 a0_0 l0_1 _ ?side1 ?side2 H1.out).mono ?_; (case side1 => exact zC (Kd.C_below HR0_1.out HB.out)); (case side2 => exact HC0_1.out); rintro e w3 ⟨v0_0, rfl, ho0, hb⟩; replace BK2 := uKb BK2 hb; have HS3 := zM hb.size; have HO0_0 := uR HB.out ho0; clear ho0; obtain ⟨Ao0_0, co0_0, eo0_0⟩ := Kd.R_slice HO0_0.out; subst eo0_0; replace HB := zM (below_step HB.out hb); clear hb; replace hc2_0 := zy BK2 0; replace hf2_0 := blk_frozen BK2.out 0; replace hc2_1 := zy BK2 1; replace hf2_1 := blk_frozen BK2.out 1)
    | (have hst_ : Aside0 (Below w.heap.size w w3) := HB; clear hst_; go_at_call 15; refine (spec_IndependentSets.calls k2 a0_0 _ _ l0_1 a1 q0 q1 _ ?side1 ?side2 H2.out).mono ?_; (case side1 => exact zC (Kd.R_reads' HO0_0.out).2.2); (case side2 => exact (Kd.R_reads' HO0_0.out).2.1); clear HO0_0; rintro e w4 ⟨v1_0, rfl, ho0, hb⟩; replace BK2 := uKb BK2 hb; have HS4 := zM hb.size; have HO1_0 := uN HB.out ho0; clear ho0; obtain ⟨Ao1_0, co1_0, eo1_0⟩ := Kd.N_slice HO1_0.out; subst eo1_0; replace HB := zM (below_step HB.out hb); clear hb; replace hc2_0 := zy BK2 0; replace hf2_0 := blk_frozen BK2.out 0; replace hc2_1 := zy BK2 1; replace hf2_1 := blk_frozen BK2.out 1)
    | (have hst_ : Aside0 (Below w.heap.size w w4) := HB; clear hst_; go_at_call 12; refine (laws_toGraph.calls k1 a0_0 _ _ l0_1 a0_0 l0_1 _ ?side1 ?side2 H1.out).mono ?_; (case side1 => exact zC (Kd.C_below HR0_1.out HB.out)); (case side2 => exact HC0_1.out); rintro e w5 ⟨v2_0, rfl, ho0, hb⟩; replace HO1_0 := uNb HO1_0 hb; replace BK2 := uKb BK2 hb; have HS5 := zM hb.size; have HO2_0 := uR HB.out ho0; clear ho0; obtain ⟨Ao2_0, co2_0, eo2_0⟩ := Kd.R_slice HO2_0.out; subst eo2_0; replace HB := zM (below_step HB.out hb); clear hb; replace hc2_0 := zy BK2 0; replace hf2_0 := blk_frozen BK2.out 0; replace hc2_1 := zy BK2 1; replace hf2_1 := blk_frozen BK2.out 1)
    | ((with_reducible refine gate_dst (N := 8) rfl ?_); refine ze 8 #[.int .i64 0, .slice none 0 0] 28 ?_; intro gb8 hg w6 hbox hb; have HG8 := zM hg; have HW8 := zM (show w.heap.size ≤ gb8 by rw [hg]; exact below_size HB.out); have HL8 := zM (blk_lt hbox); clear hg; replace HO1_0 := uNb HO1_0 hb; replace HO2_0 := uRb HO2_0 hb; replace BK2 := uKb BK2 hb; have HS6 := zM hb.size; replace HB := zM (below_step HB.out hb); have hn2_8 : gb2 ≠ gb8 := (by have := HG8.out; have := HL2.out; have := HS2.out; have := HS3.out; have := HS4.out; have := HS5.out; omega); have hn8_2 := hn2_8.symm; have BK8 := zM hbox; clear hbox hb; replace hc2_0 := zy BK2 0; replace hf2_0 := blk_frozen BK2.out 0; replace hc2_1 := zy BK2 1; replace hf2_1 := blk_frozen BK2.out 1; have hc8_0 := zy BK8 0; have hf8_0 := blk_frozen BK8.out 0; have hc8_1 := zy BK8 1; have hf8_1 := blk_frozen BK8.out 1)
    | (have hst_ : Aside0 (Below w.heap.size w w6) := HB; clear hst_; go_at_call 16; refine uBox BK8 HB HW8.out ?_; intro w7 BKn hk HBn; replace HO1_0 := uNk HO1_0 hk (fun k_ hk_ e_ => by have e2 : k_ = gb8 := e_; have := HG8.out; have := HL8.out; have h2 : w3.heap.size ≤ k_ ∧ k_ < w4.heap.size := hk_; have := HS5.out; omega); replace HO2_0 := uRk HO2_0 hk (fun k_ hk_ e_ => by have e2 : k_ = gb8 := e_; have := HG8.out; have := HL8.out; have h2 : w4.heap.size ≤ k_ ∧ k_ < w5.heap.size := hk_; omega); replace BK2 := uKk BK2 hk (fun e_ => by have e2 : gb2 = gb8 := e_; have := HG8.out; have := HL8.out; have := HG2.out; have := HL2.out; have := HS2.out; have := HS3.out; have := HS4.out; have := HS5.out; omega); replace BK8 := BKn; replace HB := HBn; clear BKn HBn; have HS7 := zM hk.1; clear hk; refine (impl_IndependentSets.calls k3 a0_0 _ _ l0_1 a1 q0 q1 _ ?side1 ?side2 H3.out).mono ?_; (case side1 => exact zC (Kd.R_reads' HO2_0.out).2.2); (case side2 => exact (Kd.R_reads' HO2_0.out).2.1); rintro e w8 ⟨v3_0, rfl, ho0, hb⟩; replace HO1_0 := uNb HO1_0 hb; replace HO2_0 := uRb HO2_0 hb; replace BK2 := uKb BK2 hb; replace BK8 := uKb BK8 hb; have HS8 := zM hb.size; have HO3_0 := uS HB.out ho0; clear ho0; obtain ⟨Ao3_0, co3_0, eo3_0⟩ := Kd.S_slice HO3_0.out; subst eo3_0; replace HB := zM (below_step HB.out hb); clear hb; replace hc2_0 := zy BK2 0; replace hf2_0 := blk_frozen BK2.out 0; replace hc2_1 := zy BK2 1; replace hf2_1 := blk_frozen BK2.out 1; replace hc8_0 := zy BK8 0; replace hf8_0 := blk_frozen BK8.out 0; replace hc8_1 := zy BK8 1; replace hf8_1 := blk_frozen BK8.out 1)
    | (have hst_ : Aside0 (Below w.heap.size w w8) := HB; clear hst_; go_at_call 17; refine (laws_eqIntSS.calls k4 _ _ q0 _ _ q0 true _ ?side1 ?side2 ?side3 ?side4 H4.out).mono ?_; (case side1 => exact zC (Kd.S_reads' HO3_0.out).2.2); (case side2 => exact (Kd.S_reads' HO3_0.out).2.1); (case side3 => exact zC (Kd.N_reads' HO1_0.out).2.2); (case side4 => exact (Kd.N_reads' HO1_0.out).2.1); rintro e w9 ⟨rfl, hb0⟩; have hb := hb0.below; clear hb0; replace HO1_0 := uNb HO1_0 hb; replace HO2_0 := uRb HO2_0 hb; replace HO3_0 := uSb HO3_0 hb; replace BK2 := uKb BK2 hb; replace BK8 := uKb BK8 hb; have HS9 := zM hb.size; replace HB := zM (below_step HB.out hb); clear hb; replace hc2_0 := zy BK2 0; replace hf2_0 := blk_frozen BK2.out 0; replace hc2_1 := zy BK2 1; replace hf2_1 := blk_frozen BK2.out 1; replace hc8_0 := zy BK8 0; replace hf8_0 := blk_frozen BK8.out 0; replace hc8_1 := zy BK8 1; replace hf8_1 := blk_frozen BK8.out 1))
  (try simp only [Act.put, List.setIfInBounds_toArray, List.set_cons_zero, List.set_cons_succ])
  replace HO1_0 := zM (Kd.N_drew HO1_0.out)
  replace HO2_0 := zM (Kd.R_drew HO2_0.out)
  replace HO3_0 := zM (Kd.S_drew HO3_0.out)
  replace BK2 := zM (blk_drew BK2.out)
  replace BK8 := zM (blk_drew BK8.out)
  replace HB := zM (below_drew1 HB.out)
  refine zs (n := 5) (fun w' => w'.cell? ⟨gb8, 0, none⟩ = some (.int .i64 a0_0) ∧ w'.cell? ⟨gb8, 1, none⟩ = some (.slice Ao2_0 l0_1.length co2_0) ∧ w'.cell? ⟨gb2, 0, none⟩ = some (.int .i64 a0_0) ∧ w'.cell? ⟨gb2, 1, none⟩ = some (.slice A0_1 l0_1.length ca0_1)) ⟨(blk_cell BK8.out 0).trans rfl, (blk_cell BK8.out 1).trans rfl, (blk_cell BK2.out 0).trans rfl, (blk_cell BK2.out 1).trans rfl⟩ (fun hHeld => ?_)
  have HS10 := zM (show w9.heap.size ≤ w9.drew.heap.size from Nat.le_refl _)
  generalize w9.drew = w10 at HO1_0 HO2_0 HO3_0 BK2 BK8 HB HS10 hHeld ⊢
  refine zl 0 45 hHeld ?_ (hy := by rintro w' ⟨s0, s1, s2, s3⟩; go_simp; with_reducible rfl)
  refine zl 1 46 hHeld ?_ (hy := by rintro w' ⟨s0, s1, s2, s3⟩; go_simp; with_reducible rfl)
  refine zh 2 47 Try.func12 #[.agg #[.int .i64 a0_0, .slice A0_1 l0_1.length ca0_1]] (fun K hK => ?_)
  (refine (laws_toGraph.calls k1 a0_0 _ _ l0_1 a0_0 l0_1 _ ?side1 ?side2 H1.out).mono ?_; (case side1 => exact zC (Kd.C_below HR0_1.out HB.out)); (case side2 => exact HC0_1.out); rintro e w11 ⟨v4_0, rfl, ho0, hb⟩; replace HO1_0 := uNb HO1_0 hb; replace HO2_0 := uRb HO2_0 hb; replace HO3_0 := uSb HO3_0 hb; replace BK2 := uKb BK2 hb; replace BK8 := uKb BK8 hb; have HS11 := zM hb.size; have HO4_0 := uR HB.out ho0; clear ho0; obtain ⟨Ao4_0, co4_0, eo4_0⟩ := Kd.R_slice HO4_0.out; subst eo4_0; replace HB := zM (below_step HB.out hb); clear hb)
  refine ⟨_, rfl, ?_⟩
  refine hK.out _ _ ⟨(blk_cell BK8.out 0).trans rfl, (blk_cell BK8.out 1).trans rfl, (blk_cell BK2.out 0).trans rfl, (blk_cell BK2.out 1).trans rfl⟩ (fun hHeld => ?_)
  clear hK K
  refine zn 47 ?_
  refine zh 3 48 Try.func14 #[.agg #[.int .i64 a0_0, .slice Ao2_0 l0_1.length co2_0], .agg #[.int .i64 a0_0, .slice Ao4_0 l0_1.length co4_0]] (fun K hK => ?_)
  (refine (laws_eqGraph.calls k5 a0_0 _ _ l0_1 a0_0 _ _ l0_1 true _ ?side1 ?side2 ?side3 ?side4 H5.out).mono ?_; (case side1 => exact zC (Kd.R_reads' HO2_0.out).2.2); (case side2 => exact (Kd.R_reads' HO2_0.out).2.1); (case side3 => exact zC (Kd.R_reads' HO4_0.out).2.2); (case side4 => exact (Kd.R_reads' HO4_0.out).2.1); clear HO4_0; rintro e w12 ⟨rfl, hb⟩; replace HO1_0 := uNb HO1_0 hb; replace HO2_0 := uRb HO2_0 hb; replace HO3_0 := uSb HO3_0 hb; replace BK2 := uKb BK2 hb; replace BK8 := uKb BK8 hb; have HS12 := zM hb.size; replace HB := zM (below_step HB.out hb); clear hb)
  refine ⟨_, rfl, ?_⟩
  refine hK.out _ _ ⟨(blk_cell BK8.out 0).trans rfl, (blk_cell BK8.out 1).trans rfl, (blk_cell BK2.out 0).trans rfl, (blk_cell BK2.out 1).trans rfl⟩ (fun hHeld => ?_)
  clear hK K
  refine zn 48 ?_
  refine zq 4 49 ?_
  refine zx ?_
  replace hc2_0 := zy BK2 0
  replace hf2_0 := blk_frozen BK2.out 0
  replace hc2_1 := zy BK2 1
  replace hf2_1 := blk_frozen BK2.out 1
  replace hc8_0 := zy BK8 0
  replace hf8_0 := blk_frozen BK8.out 0
  replace hc8_1 := zy BK8 1
  replace hf8_1 := blk_frozen BK8.out 1
  go_wp2_with (first
    | (have hst_ : Aside0 (Below w.heap.size w w12) := HB; clear hst_; go_at_call 18; refine (laws_markGraph.calls a0_0 _ _ l0_1 1 kk0 mk0_0 w w12 HB.out HO2_0.out H6.out).mono ?_; clear HO2_0; clear BK8 hc8_0 hf8_0 hc8_1 hf8_1; rintro e w13 ⟨rfl, hy0, hb2, hk⟩; replace HO1_0 := uNk HO1_0 hk (fun k_ hk_ e_ => by have e2 : w4.heap.size ≤ k_ ∧ k_ < w5.heap.size := e_; have h2 : w3.heap.size ≤ k_ ∧ k_ < w4.heap.size := hk_; omega); replace HO3_0 := uSk HO3_0 hk (fun k_ hk_ e_ => by have e2 : w4.heap.size ≤ k_ ∧ k_ < w5.heap.size := e_; have h2 : w7.heap.size ≤ k_ ∧ k_ < w8.heap.size := hk_; have := HS6.out; have := HS7.out; omega); replace BK2 := uKk BK2 hk (fun e_ => by have e2 : w4.heap.size ≤ gb2 ∧ gb2 < w5.heap.size := e_; have := HG2.out; have := HL2.out; have := HS2.out; have := HS3.out; have := HS4.out; omega); clear hy0; have HS13 := zM hk.1; replace HB := zM hb2; clear hb2 hk; replace hc2_0 := zy BK2 0; replace hf2_0 := blk_frozen BK2.out 0; replace hc2_1 := zy BK2 1; replace hf2_1 := blk_frozen BK2.out 1)
    | (have hst_ : Aside0 (Below w.heap.size w w13) := HB; clear hst_; go_at_call 17; refine (laws_eqIntSS.calls k4 _ _ q0 _ _ q0 true _ ?side1 ?side2 ?side3 ?side4 H4.out).mono ?_; (case side1 => exact zC (Kd.S_reads' HO3_0.out).2.2); (case side2 => exact (Kd.S_reads' HO3_0.out).2.1); (case side3 => exact zC (Kd.N_reads' HO1_0.out).2.2); (case side4 => exact (Kd.N_reads' HO1_0.out).2.1); rintro e w14 ⟨rfl, hb0⟩; have hb := hb0.below; clear hb0; replace HO1_0 := uNb HO1_0 hb; replace HO3_0 := uSb HO3_0 hb; replace BK2 := uKb BK2 hb; have HS14 := zM hb.size; replace HB := zM (below_step HB.out hb); clear hb; replace hc2_0 := zy BK2 0; replace hf2_0 := blk_frozen BK2.out 0; replace hc2_1 := zy BK2 1; replace hf2_1 := blk_frozen BK2.out 1)
    | (have hst_ : Aside0 (Below w.heap.size w w14) := HB; clear hst_; go_at_call 19; refine (laws_markIntSS.calls _ _ q0 1 kk1 mk1_0 w w14 HB.out HO3_0.out H7.out).mono ?_; rintro e w15 ⟨rfl, hy0, hb2, hk⟩; replace HO1_0 := uNk HO1_0 hk (fun k_ hk_ e_ => by have e2 : w7.heap.size ≤ k_ ∧ k_ < w8.heap.size := e_; have h2 : w3.heap.size ≤ k_ ∧ k_ < w4.heap.size := hk_; have := HS5.out; have := HS6.out; have := HS7.out; omega); replace BK2 := uKk BK2 hk (fun e_ => by have e2 : w7.heap.size ≤ gb2 ∧ gb2 < w8.heap.size := e_; have := HG2.out; have := HL2.out; have := HS2.out; have := HS3.out; have := HS4.out; have := HS5.out; have := HS6.out; have := HS7.out; omega); replace HO3_0 := zM (Kd.S_mono (Kd.S_bound hy0) (fun k_ hk_ => (Or.imp id (fun h_ => ⟨h_, hk_.2.2.1⟩) hk_.1 : (w7.heap.size ≤ k_ ∧ k_ < w8.heap.size) ∨ (w14.heap.size ≤ k_ ∧ k_ < w15.heap.size)))); clear hy0; have hl3_0 := (Kd.S_reads' HO3_0.out).1; rw [hl3_0] at HO3_0; replace hl3_0 := zM hl3_0; have HS15 := zM hk.1; replace HB := zM hb2; clear hb2 hk; replace hc2_0 := zy BK2 0; replace hf2_0 := blk_frozen BK2.out 0; replace hc2_1 := zy BK2 1; replace hf2_1 := blk_frozen BK2.out 1)
    | (have hst_ : Aside0 (Below w.heap.size w w15) := HB; clear hst_; go_at_call 20; refine uArgs (args' := #[.slice Ao3_0 mk1_0.length co3_0, .int .i64 1]) (by rw [hl3_0.out]) ?_; refine (laws_heldIntSS.calls k8 _ _ mk1_0 1 kk1 _ ?side1 ?side2 H8.out).mono ?_; (case side1 => exact zC (Kd.S_reads' HO3_0.out).2.2); (case side2 => exact (Kd.S_reads' HO3_0.out).2.1); rintro e w16 ⟨rfl, hb0⟩; have hb := hb0.below; clear hb0; replace HO1_0 := uNb HO1_0 hb; replace HO3_0 := uSb HO3_0 hb; replace BK2 := uKb BK2 hb; have HS16 := zM hb.size; replace HB := zM (below_step HB.out hb); clear hb; replace hc2_0 := zy BK2 0; replace hf2_0 := blk_frozen BK2.out 0; replace hc2_1 := zy BK2 1; replace hf2_1 := blk_frozen BK2.out 1)
    | (have hst_ : Aside0 (Below w.heap.size w w16) := HB; clear hst_; go_at_call 12; refine (laws_toGraph.calls k1 a0_0 _ _ l0_1 a0_0 l0_1 _ ?side1 ?side2 H1.out).mono ?_; (case side1 => exact zC (Kd.C_below HR0_1.out HB.out)); (case side2 => exact HC0_1.out); clear BK2 hc2_0 hf2_0 hc2_1 hf2_1; rintro e w17 ⟨v5_0, rfl, ho0, hb⟩; replace HO1_0 := uNb HO1_0 hb; replace HO3_0 := uSb HO3_0 hb; have HS17 := zM hb.size; have HO5_0 := uR HB.out ho0; clear ho0; obtain ⟨Ao5_0, co5_0, eo5_0⟩ := Kd.R_slice HO5_0.out; subst eo5_0; replace HB := zM (below_step HB.out hb); clear hb)
    | (have hst_ : Aside0 (Below w.heap.size w w17) := HB; clear hst_; go_at_call 16; refine (impl_IndependentSets.calls k3 a0_0 _ _ l0_1 a1 q0 q1 _ ?side1 ?side2 H3.out).mono ?_; (case side1 => exact zC (Kd.R_reads' HO5_0.out).2.2); (case side2 => exact (Kd.R_reads' HO5_0.out).2.1); clear HO5_0; rintro e w18 ⟨v6_0, rfl, ho0, hb⟩; replace HO1_0 := uNb HO1_0 hb; replace HO3_0 := uSb HO3_0 hb; have HS18 := zM hb.size; have HO6_0 := uS HB.out ho0; clear ho0; obtain ⟨Ao6_0, co6_0, eo6_0⟩ := Kd.S_slice HO6_0.out; subst eo6_0; replace HB := zM (below_step HB.out hb); clear hb)
    | (have hst_ : Aside0 (Below w.heap.size w w18) := HB; clear hst_; go_at_call 17; refine (laws_eqIntSS.calls k4 _ _ q0 _ _ q0 true _ ?side1 ?side2 ?side3 ?side4 H4.out).mono ?_; (case side1 => exact zC (Kd.S_reads' HO6_0.out).2.2); (case side2 => exact (Kd.S_reads' HO6_0.out).2.1); (case side3 => exact zC (Kd.N_reads' HO1_0.out).2.2); (case side4 => exact (Kd.N_reads' HO1_0.out).2.1); clear HO1_0; clear HO6_0; rintro e w19 ⟨rfl, hb0⟩; have hb := hb0.below; clear hb0; replace HO3_0 := uSb HO3_0 hb; have HS19 := zM hb.size; replace HB := zM (below_step HB.out hb); clear hb)
    | (have hst_ : Aside0 (Below w.heap.size w w19) := HB; clear hst_; go_at_call 20; refine uArgs (args' := #[.slice Ao3_0 mk1_0.length co3_0, .int .i64 1]) (by rw [hl3_0.out]) ?_; refine (laws_heldIntSS.calls k8 _ _ mk1_0 1 kk1 _ ?side1 ?side2 H8.out).mono ?_; (case side1 => exact zC (Kd.S_reads' HO3_0.out).2.2); (case side2 => exact (Kd.S_reads' HO3_0.out).2.1); clear HO3_0; rintro e w20 ⟨rfl, hb0⟩; have hb := hb0.below; clear hb0; have HS20 := zM hb.size; replace HB := zM (below_step HB.out hb); clear hb))
  go_ret
  exact ⟨rfl, HB.out⟩
end Go.Proofs.Ytadjbmcfgjmhkaa.P
namespace Go.Proofs.Ytadjbmcfgjmhkaa.P
open Go.RowKit Go.Proofs.YtadjbmcfgjmhkaaW.PrintWords Go.Proofs.YtadjbmcfgjmhkaaW.PrintLast Go.Proofs.YtadjbmcfgjmhkaaW.PrintMore
set_option linter.unusedVariables false
set_option linter.unusedSimpArgs false

theorem own_at (l : List Int) (h : l.length ≤ 1048576) : spec_l1Own.f l = some l := by
  unfold spec_l1Own.f
  rw [Option.bind_some, List.length_nil, if_pos (by omega), List.nil_append]
theorem same_loop (x y : List Int) (hx : x.length ≤ 1048576) (hxy : x.length = y.length) (d : Nat) : ∀ (m : Nat), x.length - m = d → m ≤ x.length → Ev (fun k => spec_l1Same.l0 k x y (m : Int)) (decide (x.drop m = y.drop m)) := by
  induction d with
  | zero =>
    intro m h0 h1
    refine Ev.step (fun k => by rw [spec_l1Same.l0]) (Ev.neg (by omega) ?_)
    rw [List.drop_eq_nil_of_le (by omega), List.drop_eq_nil_of_le (by omega), decide_eq_true rfl]
    exact Ev.now _
  | succ d ih =>
    intro m h0 h1
    have hm : m < x.length := by omega
    have hy : m < y.length := by omega
    refine Ev.step (fun k => by rw [spec_l1Same.l0]) (Ev.pos (by omega) (Ev.pos (by omega) (Ev.pos (by omega) ?_)))
    rw [rd_at x m hm, rd_at y m hy, List.drop_eq_getElem_cons hm, List.drop_eq_getElem_cons hy]
    by_cases c : x[m] = y[m]
    · have := ih (m + 1) (by omega) (by omega)
      rw [show decide (x[m] :: x.drop (m + 1) = y[m] :: y.drop (m + 1)) = decide (x.drop (m + 1) = y.drop (m + 1)) from by rw [decide_eq_decide, List.cons.injEq]; exact ⟨fun h => h.2, fun h => ⟨c, h⟩⟩, wrap_up hm (by omega)]
      exact Ev.pos c this
    · rw [decide_eq_false (fun h => c (by injection h))]
      exact Ev.neg c (Ev.now _)
theorem same_ev (x y : List Int) (hx : x.length ≤ 1048576) : Ev (fun k => spec_l1Same.f k x y) (decide (x = y)) := by
  unfold spec_l1Same.f
  by_cases c : x.length = y.length
  · have := same_loop x y hx c x.length 0 (by omega) (Nat.zero_le _)
    rw [List.drop_zero, List.drop_zero] at this
    exact Ev.pos (by omega) this
  · rw [decide_eq_false (fun h => c (by rw [h]))]
    exact Ev.neg (by omega) (Ev.now _)
theorem lex_ins {o : List (List Int)} (h : LexS o) (s : List Int) (p : Nat) (h1 : ∀ x ∈ o.drop p, befL s x = true) (h2 : ∀ x ∈ o.take p, befL x s = true) :
    LexS (o.take p ++ [s] ++ o.drop p) ∧ ∀ x, x ∈ o.take p ++ [s] ++ o.drop p ↔ x ∈ o ∨ x = s := by
  have hm : ∀ x, x ∈ o ↔ x ∈ o.take p ∨ x ∈ o.drop p := fun x => by rw [← List.mem_append, List.take_append_drop]
  constructor
  · unfold LexS
    rw [List.append_assoc, List.singleton_append, List.pairwise_append, List.pairwise_cons]
    refine ⟨h.sublist (List.take_sublist ..), ⟨h1, h.sublist (List.drop_sublist ..)⟩, fun a ha b hb => ?_⟩
    rcases List.mem_cons.1 hb with rfl | hb
    · exact h2 a ha
    · exact befL_trans _ _ _ (h2 a ha) (h1 b hb)
  · intro x
    rw [hm x]
    simp only [List.mem_append, List.mem_singleton]
    constructor
    · rintro ((h | h) | h)
      · exact .inl (.inl h)
      · exact .inr h
      · exact .inl (.inr h)
    · rintro ((h | h) | h)
      · exact .inl (.inl h)
      · exact .inr h
      · exact .inl (.inr h)
section
variable (ls : List (List Int)) (hls : ls.length ≤ 1048576) (hb : ∀ s ∈ ls, s.length ≤ 1048576)
include hls hb
theorem sorted_in (i : Nat) (hi : i < ls.length) (o : List (List Int)) (ho : LexS o) (hol : o.length ≤ i) (hob : ∀ x ∈ o, x.length ≤ 1048576) : ∀ p : Nat, p ≤ o.length → (∀ x ∈ o.drop p, befL ls[i] x = true) →
    ∃ R, LexS R ∧ R.length ≤ o.length + 1 ∧ (∀ x, x ∈ R ↔ x ∈ o ∨ x = ls[i]) ∧ ∀ F, Ev (fun k => spec_l2Sorted.l0 k ls R (wrap64 ((i : Int) + 1))) F → Ev (fun k => spec_l2Sorted.l1 k ls o (i : Int) (p : Int)) F := by
  have hs := hb ls[i] (List.getElem_mem hi)
  intro p
  induction p with
  | zero =>
    intro hp hd
    obtain ⟨g1, g2⟩ := lex_ins ho ls[i] 0 hd (fun x hx => by simp at hx)
    refine ⟨_, g1, by simp, g2, fun F hF => ?_⟩
    refine Ev.step (fun k => by rw [spec_l2Sorted.l1]) ?_
    refine Ev.neg (by omega) ?_
    refine Ev.step (fun k => by rw [spec_l2Sorted.j2]) ?_
    refine Ev.pos rfl ?_
    refine Ev.bindo rfl ?_
    refine Ev.pos (by omega) ?_
    refine Ev.pos (by omega) ?_
    refine Ev.bindo rfl ?_
    refine Ev.pos (by simp) ?_
    refine Ev.bindo rfl ?_
    refine Ev.pos (by omega) ?_
    refine Ev.pos (by omega) ?_
    rw [rdL_at ls i hi]
    refine Ev.bindo (own_at _ hs) ?_
    refine Ev.pos (by simp) ?_
    refine Ev.bindo rfl ?_
    refine Ev.bindo rfl ?_
    refine Ev.pos (by simp; omega) ?_
    exact hF
  | succ p ih =>
    intro hp hd
    have hpl : p < o.length := by omega
    have hw : wrap64 (((p + 1 : Nat) : Int) - 1) = (p : Int) := by unfold wrap64; omega
    cases c : befL ls[i] o[p] with
    | true =>
      obtain ⟨R, r1, r2, r3, r4⟩ := ih (by omega) (fun x hx => by
        rw [List.drop_eq_getElem_cons hpl] at hx
        rcases List.mem_cons.1 hx with rfl | hx
        · exact c
        · exact hd x hx)
      refine ⟨R, r1, r2, r3, fun F hF => ?_⟩
      refine Ev.step (fun k => by rw [spec_l2Sorted.l1]) ?_
      refine Ev.pos (by omega) ?_
      refine Ev.pos (by omega) ?_
      refine Ev.pos (by omega) ?_
      rw [hw]
      refine Ev.pos (by omega) ?_
      refine Ev.pos (by omega) ?_
      rw [rdL_at ls i hi, rdL_at o p hpl]
      refine Ev.bind (l2Before_ev _ _ hs (hob _ (List.getElem_mem hpl))) ?_
      refine Ev.pos c ?_
      exact r4 F hF
    | false =>
      by_cases e : o[p] = ls[i]
      · refine ⟨o, ho, by omega, fun x => ⟨.inl, fun h => h.elim id fun h => by rw [h, ← e]; exact List.getElem_mem hpl⟩, fun F hF => ?_⟩
        refine Ev.step (fun k => by rw [spec_l2Sorted.l1]) ?_
        refine Ev.pos (by omega) ?_
        refine Ev.pos (by omega) ?_
        refine Ev.pos (by omega) ?_
        rw [hw]
        refine Ev.pos (by omega) ?_
        refine Ev.pos (by omega) ?_
        rw [rdL_at ls i hi, rdL_at o p hpl]
        refine Ev.bind (l2Before_ev _ _ hs (hob _ (List.getElem_mem hpl))) ?_
        refine Ev.neg (by rw [c]; decide) ?_
        refine Ev.step (fun k => by rw [spec_l2Sorted.j2]) ?_
        refine Ev.neg (by omega) ?_
        rw [hw]
        refine Ev.pos (by omega) ?_
        refine Ev.pos (by omega) ?_
        refine Ev.pos (by omega) ?_
        refine Ev.pos (by omega) ?_
        rw [rdL_at ls i hi, rdL_at o p hpl]
        refine Ev.bind (same_ev _ _ (hob _ (List.getElem_mem hpl))) ?_
        refine Ev.pos (decide_eq_true e) ?_
        exact hF
      · have hlt : befL o[p] ls[i] = true := by
          cases c2 : befL o[p] ls[i] with
          | true => rfl
          | false => exact absurd (befL_tri _ _ c2 c) e
        obtain ⟨g1, g2⟩ := lex_ins ho ls[i] (p + 1) hd (fun x hx => by
          obtain ⟨q, hq, rfl⟩ := List.getElem_of_mem hx
          rw [List.length_take] at hq
          rw [List.getElem_take]
          by_cases hqp : q = p
          · subst hqp; exact hlt
          · exact befL_trans _ _ _ (List.pairwise_iff_getElem.1 ho q p (by omega) hpl (by omega)) hlt)
        refine ⟨_, g1, by simp [List.length_take, List.length_drop]; omega, g2, fun F hF => ?_⟩
        refine Ev.step (fun k => by rw [spec_l2Sorted.l1]) ?_
        refine Ev.pos (by omega) ?_
        refine Ev.pos (by omega) ?_
        refine Ev.pos (by omega) ?_
        rw [hw]
        refine Ev.pos (by omega) ?_
        refine Ev.pos (by omega) ?_
        rw [rdL_at ls i hi, rdL_at o p hpl]
        refine Ev.bind (l2Before_ev _ _ hs (hob _ (List.getElem_mem hpl))) ?_
        refine Ev.neg (by rw [c]; decide) ?_
        refine Ev.step (fun k => by rw [spec_l2Sorted.j2]) ?_
        refine Ev.neg (by omega) ?_
        rw [hw]
        refine Ev.pos (by omega) ?_
        refine Ev.pos (by omega) ?_
        refine Ev.pos (by omega) ?_
        refine Ev.pos (by omega) ?_
        rw [rdL_at ls i hi, rdL_at o p hpl]
        refine Ev.bind (same_ev _ _ (hob _ (List.getElem_mem hpl))) ?_
        refine Ev.neg (by rw [decide_eq_false e]; decide) ?_
        refine Ev.bindo rfl ?_
        refine Ev.pos (by omega) ?_
        refine Ev.pos (by omega) ?_
        refine Ev.bindo rfl ?_
        rw [Int.toNat_natCast]
        refine Ev.pos (by simp [List.length_take]; omega) ?_
        refine Ev.bindo rfl ?_
        refine Ev.bindo (own_at _ hs) ?_
        refine Ev.pos (by simp [List.length_take]; omega) ?_
        refine Ev.bindo rfl ?_
        refine Ev.bindo rfl ?_
        refine Ev.pos (by simp [List.length_take, List.length_drop]; omega) ?_
        exact hF
theorem sorted_loop (d : Nat) : ∀ (m : Nat) (o : List (List Int)), ls.length - m = d → m ≤ ls.length → LexS o → o.length ≤ m → (∀ x, x ∈ o ↔ x ∈ ls.take m) →
    ∃ R, LexS R ∧ R.length ≤ ls.length ∧ (∀ x, x ∈ R ↔ x ∈ ls) ∧ Ev (fun k => spec_l2Sorted.l0 k ls o (m : Int)) R := by
  induction d with
  | zero =>
    intro m o h0 h1 h2 h3 h4
    refine ⟨o, h2, by omega, fun x => by rw [h4 x, List.take_of_length_le (by omega)], ?_⟩
    refine Ev.step (fun k => by rw [spec_l2Sorted.l0]) ?_
    exact Ev.neg (by omega) (Ev.now _)
  | succ d ih =>
    intro m o h0 h1 h2 h3 h4
    have hm : m < ls.length := by omega
    obtain ⟨R, r1, r2, r3, r4⟩ := sorted_in ls hls hb m hm o h2 h3 (fun x hx => hb x (List.mem_of_mem_take ((h4 x).1 hx))) o.length (Nat.le_refl _) (fun x hx => by rw [List.drop_length] at hx; simp at hx)
    obtain ⟨R', q1, q2, q3, q4⟩ := ih (m + 1) R (by omega) (by omega) r1 (by omega) (fun x => by
      rw [r3 x, h4 x, List.take_succ_eq_append_getElem hm, List.mem_append, List.mem_singleton])
    rw [← wrap_up hm (by omega)] at q4
    refine ⟨R', q1, q2, q3, ?_⟩
    refine Ev.step (fun k => by rw [spec_l2Sorted.l0]) ?_
    refine Ev.pos (by omega) ?_
    exact r4 R' q4
end
theorem l2Sorted_ev (ls : List (List Int)) (hls : ls.length ≤ 1048576) (hb : ∀ s ∈ ls, s.length ≤ 1048576) : ∃ R, LexS R ∧ R.length ≤ ls.length ∧ (∀ x, x ∈ R ↔ x ∈ ls) ∧ Ev (fun k => spec_l2Sorted.f k ls) R := by
  obtain ⟨R, r1, r2, r3, r4⟩ := sorted_loop ls hls hb ls.length 0 [] (by omega) (Nat.zero_le _) List.Pairwise.nil (Nat.le_refl _) (fun x => by simp)
  refine ⟨R, r1, r2, r3, ?_⟩
  unfold spec_l2Sorted.f
  simpa only [Int.natCast_zero] using r4
theorem l2Sorted_nodup (ls : List (List Int)) (hls : ls.length ≤ 1048576) (hb : ∀ s ∈ ls, s.length ≤ 1048576) (hn : ls.Nodup) : Ev (fun k => spec_l2Sorted.f k ls) (sortLL ls) := by
  obtain ⟨R, r1, r2, r3, r4⟩ := l2Sorted_ev ls hls hb
  rw [← lex_unique R (sortLL ls) r1 (sortLL_lex ls hn) (fun s => by rw [r3, sortLL_mem])]
  exact r4
end Go.Proofs.Ytadjbmcfgjmhkaa.P
namespace Go.Proofs.Ytadjbmcfgjmhkaa.P
open Go.RowKit Go.Proofs.YtadjbmcfgjmhkaaW.PrintWords Go.Proofs.YtadjbmcfgjmhkaaW.PrintLast Go.Proofs.YtadjbmcfgjmhkaaW.PrintMore
set_option linter.unusedVariables false
set_option linter.unusedSimpArgs false

abbrev bagL (b : Int) : List Int := selI (hasI b) 8 0
theorem hasB_fin : ∀ b : Fin 256, ∀ y : Fin 8, (Go.bits .and .i64 (shr .i64 b y) 1 == 1) = hasI b y := by decide +kernel
theorem hasB_at {b y : Int} (hb : 0 ≤ b ∧ b < 256) (hy : 0 ≤ y ∧ y < 8) : (Go.bits .and .i64 (shr .i64 b y) 1 = 1) ↔ hasI b y = true := by
  obtain ⟨i, rfl⟩ := fin_of (n := 256) hb.1 hb.2
  obtain ⟨j, rfl⟩ := fin_of (n := 8) hy.1 hy.2
  have := hasB_fin i j
  rw [← this, beq_iff_eq]
theorem high_fin : ∀ n : Fin 9, ∀ b : Fin 256, decide (b.val < 2 ^ n.val) = (List.range 8).all (fun y => decide (y < n.val) || !hasI b y) := by decide +kernel
theorem high_at {n : Nat} {b : Int} (hn : n ≤ 8) (hb : 0 ≤ b ∧ b < 256) : b < ((2 ^ n : Nat) : Int) ↔ ∀ y : Int, (n : Int) ≤ y → y < 8 → hasI b y = false := by
  obtain ⟨i, rfl⟩ := fin_of (n := 256) hb.1 hb.2
  have h := high_fin ⟨n, by omega⟩ i
  have e1 : ((i.val : Int) < ((2 ^ n : Nat) : Int)) ↔ decide (i.val < 2 ^ n) = true := by rw [decide_eq_true_eq]; omega
  rw [e1, h, List.all_eq_true]
  constructor
  · intro h y h0 h1
    have := h y.toNat (by rw [List.mem_range]; omega)
    simp only [Bool.or_eq_true, decide_eq_true_eq, Bool.not_eq_true'] at this
    rw [show ((y.toNat : Nat) : Int) = y by omega] at this
    exact this.resolve_left (by omega)
  · intro h y hy
    rw [List.mem_range] at hy
    by_cases c : y < n
    · simp [c]
    · have := h (y : Int) (by omega) (by omega)
      simp [this]
theorem bag_left : ∀ b : Fin 256, bagI 0 (selI (hasI b) 8 0) = b := by decide +kernel
theorem bag_left_at {b : Int} (hb : 0 ≤ b ∧ b < 256) : bagI 0 (bagL b) = b := by
  obtain ⟨i, rfl⟩ := fin_of (n := 256) hb.1 hb.2
  exact bag_left i
theorem bits_loop (n : Int) (b : Int) (hn : n ≤ 8) (hb : 0 ≤ b ∧ b < 256) (d : Nat) : ∀ (y : Int) (acc : List Int), (n - y).toNat = d → 0 ≤ y → acc.length + d ≤ 1000 → Ev (fun k => spec_l2Bits.l0 k n b acc y) (acc ++ selI (hasI b) d y) := by
  induction d with
  | zero =>
    intro y acc h0 h1 h2
    refine Ev.step (fun k => by rw [spec_l2Bits.l0]) (Ev.neg (by omega) ?_)
    simp only [selI, List.append_nil]
    exact Ev.now _
  | succ d ih =>
    intro y acc h0 h1 h2
    refine Ev.step (fun k => by rw [spec_l2Bits.l0]) (Ev.pos (by omega) (Ev.pos (by omega) ?_))
    have hw : wrap64 (y + 1) = y + 1 := wrap_nat (by omega) (by omega)
    rw [hw, selI]
    by_cases c : hasI b y = true
    · rw [if_pos c, ← List.append_assoc]
      refine Ev.pos ((hasB_at hb ⟨h1, by omega⟩).2 c) (Ev.pos (by omega) ?_)
      exact ih (y + 1) _ (by omega) (by omega) (by rw [List.length_append, List.length_singleton]; omega)
    · rw [if_neg c, List.nil_append]
      exact Ev.neg (fun h => c ((hasB_at hb ⟨h1, by omega⟩).1 h)) (ih (y + 1) acc (by omega) (by omega) (by omega))
theorem bits_ev (n : Nat) (b : Int) (hn : n ≤ 8) (hb : 0 ≤ b ∧ b < ((2 ^ n : Nat) : Int)) : Ev (fun k => spec_l2Bits.f k (n : Int) b) (bagL b) := by
  have hpow : 2 ^ n ≤ 256 := Nat.pow_le_pow_right (n := 2) (by decide) (show n ≤ 8 from hn)
  have h := bits_loop (n : Int) b (by omega) ⟨hb.1, by omega⟩ n 0 [] (by omega) (by omega) (by simp; omega)
  unfold spec_l2Bits.f
  have e : bagL b = selI (hasI b) n 0 := by
    unfold bagL
    rw [show 8 = n + (8 - n) by omega, selI_add, selI_none _ (8 - n), List.append_nil]
    intro z h0 h1
    exact (high_at hn ⟨hb.1, by omega⟩).1 hb.2 z (by omega) (by omega)
  rw [e]
  simpa only [List.nil_append] using h
/-- A set of nodes. -/
def SetN (n : Nat) (s : List Int) : Prop := s.Pairwise (· < ·) ∧ ∀ x ∈ s, 0 ≤ x ∧ x < (n : Int)
theorem SetN.ris {n : Nat} {s : List Int} (h : SetN n s) : risI 0 ((n : Int) - 1) none s = true := risI_of _ _ s none h.1 (fun x hx => by have := h.2 x hx; omega) (fun q e => by cases e)
theorem SetN.wide {n m : Nat} {s : List Int} (h : SetN n s) (hm : n ≤ m) : SetN m s := ⟨h.1, fun x hx => by have := h.2 x hx; omega⟩
theorem selI_pw (f : Int → Bool) (d : Nat) : ∀ y, (selI f d y).Pairwise (· < ·) := by
  induction d with
  | zero => intro y; exact List.Pairwise.nil
  | succ d ih =>
    intro y
    simp only [selI]
    by_cases c : f y = true
    · rw [if_pos c, List.singleton_append, List.pairwise_cons]
      exact ⟨fun z hz => by have := ((selI_mem f d (y + 1) z).1 hz).1; omega, ih (y + 1)⟩
    · rw [if_neg c, List.nil_append]
      exact ih (y + 1)
theorem bagL_set {n : Nat} {b : Int} (hn : n ≤ 8) (hb : 0 ≤ b ∧ b < ((2 ^ n : Nat) : Int)) : SetN n (bagL b) := by
  have hpow : 2 ^ n ≤ 256 := Nat.pow_le_pow_right (n := 2) (by decide) (show n ≤ 8 from hn)
  refine ⟨selI_pw _ _ _, fun x hx => ?_⟩
  obtain ⟨h1, h2⟩ := (selI_mem _ _ _ _).1 hx
  have h3 := (high_at hn ⟨hb.1, by omega⟩).1 hb.2
  refine ⟨by omega, ?_⟩
  by_cases c : x < (n : Int)
  · exact c
  · have := h3 x (by omega) (by omega)
    rw [h2] at this
    exact absurd this (by decide)
theorem pw_unique {l1 l2 : List Int} (h1 : l1.Pairwise (· < ·)) (h2 : l2.Pairwise (· < ·)) (h : ∀ x, x ∈ l1 ↔ x ∈ l2) : l1 = l2 := by
  induction l1 generalizing l2 with
  | nil =>
    cases l2 with
    | nil => rfl
    | cons b u => exact absurd ((h b).2 (List.mem_cons_self ..)) (by simp)
  | cons a t ih =>
    cases l2 with
    | nil => exact absurd ((h a).1 (List.mem_cons_self ..)) (by simp)
    | cons b u =>
      have p1 := List.pairwise_cons.1 h1
      have p2 := List.pairwise_cons.1 h2
      have hab : a = b := by
        rcases List.mem_cons.1 ((h a).1 (List.mem_cons_self ..)) with e | e
        · exact e
        · rcases List.mem_cons.1 ((h b).2 (List.mem_cons_self ..)) with e2 | e2
          · exact e2.symm
          · have := p1.1 b e2
            have := p2.1 a e
            omega
      subst hab
      rw [ih p1.2 p2.2 fun s => ?_]
      constructor
      · intro hs
        rcases List.mem_cons.1 ((h s).1 (List.mem_cons_of_mem _ hs)) with e | e
        · have := p1.1 s hs; omega
        · exact e
      · intro hs
        rcases List.mem_cons.1 ((h s).2 (List.mem_cons_of_mem _ hs)) with e | e
        · have := p2.1 s hs; omega
        · exact e
theorem bag_list_set {l : List Int} (h : risI 0 (((8 : Nat) : Int) - 1) none l = true) : bagL (bagI 0 l) = l := by
  have hp := risI_pw _ _ l none h
  have hx : ∀ x ∈ l, 0 ≤ x ∧ x < 8 := fun x hx => by have := risI_all _ _ l none h x hx; omega
  have hb := (bagI_at l 0 (by omega) hx).2
  refine pw_unique (selI_pw _ _ _) hp.1 fun x => ?_
  rw [selI_mem]
  constructor
  · rintro ⟨h1, h2⟩
    rw [hb x (by omega) (by omega), hasI_nil (by omega) (by omega), Bool.false_or, decide_eq_true_eq] at h2
    exact h2
  · intro hx'
    have := hx x hx'
    refine ⟨by omega, ?_⟩
    rw [hb x (by omega) (by omega), hasI_nil (by omega) (by omega), Bool.false_or, decide_eq_true_eq]
    exact hx'
theorem SetN.code {n : Nat} {s : List Int} (hn : n ≤ 8) (h : SetN n s) : (0 ≤ bagI 0 s ∧ bagI 0 s < ((2 ^ n : Nat) : Int)) ∧ bagL (bagI 0 s) = s := by
  have h8 := (h.wide hn).ris
  have hb := bagI_at s 0 (by omega) (fun x hx => by have := h.2 x hx; omega)
  refine ⟨⟨hb.1.1, (high_at hn hb.1).2 fun y h0 h1 => ?_⟩, bag_list_set h8⟩
  rw [hb.2 y (by omega) h1, hasI_nil (by omega) h1, Bool.false_or, decide_eq_false_iff_not]
  intro hy
  have := h.2 y hy
  omega
theorem codes_mem {n : Nat} (hn : n ≤ 8) (p : Int → Bool) (s : List Int) : s ∈ codesL p (2 ^ n) ↔ SetN n s ∧ p (bagI 0 s) = true := by
  have hpow : 2 ^ n ≤ 256 := Nat.pow_le_pow_right (n := 2) (by decide) (show n ≤ 8 from hn)
  unfold codesL
  rw [List.mem_map]
  constructor
  · rintro ⟨b, hb, rfl⟩
    obtain ⟨h1, h2⟩ := (selI_mem _ _ _ _).1 hb
    have h3 : 0 ≤ b ∧ b < ((2 ^ n : Nat) : Int) := ⟨h1.1, by omega⟩
    refine ⟨bagL_set hn h3, ?_⟩
    rw [bag_left_at ⟨h3.1, by omega⟩]
    exact h2
  · rintro ⟨h1, h2⟩
    have h3 := h1.code hn
    exact ⟨bagI 0 s, (selI_mem _ _ _ _).2 ⟨by have := h3.1; omega, h2⟩, h3.2⟩
theorem codes_nodup {n : Nat} (hn : n ≤ 256) (p : Int → Bool) : (codesL p n).Nodup := by
  unfold codesL
  refine List.Pairwise.map _ ?_ (List.Pairwise.and_mem.1 (selI_pw p n 0))
  rintro a b ⟨ha, hb, hab⟩ e
  have h1 := ((selI_mem _ _ _ _).1 ha).1
  have h2 := ((selI_mem _ _ _ _).1 hb).1
  have := congrArg (bagI 0) e
  rw [bag_left_at ⟨by omega, by omega⟩, bag_left_at ⟨by omega, by omega⟩] at this
  omega
theorem SetN.len {n : Nat} {s : List Int} (h : SetN n s) : s.length ≤ n := by
  have : ∀ (s : List Int) (a : Int), s.Pairwise (· < ·) → (∀ x ∈ s, a ≤ x ∧ x < (n : Int)) → (s.length : Int) ≤ (n : Int) - a ∨ s = [] := by
    intro s
    induction s with
    | nil => intro a _ _; exact .inr rfl
    | cons x t ih =>
      intro a h1 h2
      have p1 := List.pairwise_cons.1 h1
      have hx := h2 x (List.mem_cons_self ..)
      rcases ih (x + 1) p1.2 (fun y hy => ⟨by have := p1.1 y hy; omega, (h2 y (List.mem_cons_of_mem _ hy)).2⟩) with h3 | h3
      · exact .inl (by rw [List.length_cons]; omega)
      · subst h3
        exact .inl (by rw [List.length_singleton]; omega)
  rcases this s 0 h.1 h.2 with h3 | h3
  · omega
  · subst h3; exact Nat.zero_le _
end Go.Proofs.Ytadjbmcfgjmhkaa.P
