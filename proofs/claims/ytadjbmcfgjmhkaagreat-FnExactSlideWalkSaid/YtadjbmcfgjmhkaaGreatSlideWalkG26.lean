/- The contract of the laws' markIntSS: rising numbers are written into all rows of a list of lists that the caller owns; for every world. -/
import Derived.Test.YtadjbmcfgjmhkaaGreatSlideWalkG25
namespace Go.Proofs.YtadjbmcfgjmhkaaGreat.P
open Go.RowKit YtadjbmcfgjmhkaaGreatW.PrintWords Go.Proofs.YtadjbmcfgjmhkaaGreatW.PrintLast Go.Proofs.YtadjbmcfgjmhkaaGreatW.PrintMore
set_option maxRecDepth 100000
set_option maxHeartbeats 8000000
set_option linter.unusedVariables false
set_option linter.unusedSimpArgs false
def cz : Nat → Int → List Int
 | 0, _ => []
 | n + 1, k => k :: cz n (wrap64 (k + 1))
def cH : Nat → Int → Int
 | 0, k => k
 | n + 1, k => cH n (wrap64 (k + 1))
theorem pz (d : Nat) : ∀ (done rest : List Int) (c : Int), rest.length = d → done.length + d ≤ 9223372036854775807 →
  ∃ k, cQ k (done ++ rest) c (done.length : Int) = some (cH d c, done ++ cz d c) := by
 induction d with
 | zero =>
  intro done rest c h0 h1
  have : rest = [] := List.eq_nil_of_length_eq_zero h0
  subst this
  refine ⟨1, ?_⟩
  rw [cQ, if_neg (by simp)]
  rfl
 | succ d ih =>
  intro done rest c h0 h1
  obtain ⟨x, t, rfl⟩ : ∃ x t, rest = x :: t := by
   cases rest with
   | nil => simp at h0
   | cons x t => exact ⟨x, t, rfl⟩
  have h2 : t.length = d := by simpa using h0
  obtain ⟨k, hk⟩ := ih (done ++ [c]) t (wrap64 (c + 1)) h2 (by rw [List.length_append, List.length_singleton]; omega)
  refine ⟨k + 1, ?_⟩
  have e : (done ++ x :: t).set ((done.length : Int)).toNat c = (done ++ [c]) ++ t := by
   rw [Int.toNat_natCast]
   simp
  have hw : wrap64 ((done.length : Int) + 1) = ((done ++ [c]).length : Int) := by
   rw [List.length_append, List.length_singleton]
   unfold wrap64
   omega
  rw [cQ, if_pos (by simp; omega), if_pos (by omega), e, hw, hk]
  simp only [cz, cH, List.append_assoc, List.singleton_append]
theorem py (l : List Int) (c : Int) (hl : l.length ≤ 9223372036854775807) : ∃ k, dx k l c = some (cH l.length c, cz l.length c) := by
 obtain ⟨k, hk⟩ := pz l.length [] l c rfl (by simpa using hl)
 exact ⟨k, by unfold dx; simpa only [List.nil_append, List.length_nil, Int.natCast_zero] using hk⟩
def bG : List (List Int) → Int → Int × List (List Int)
 | [], k => (k, [])
 | l :: t, k => ((bG t (cH l.length k)).1, cz l.length k :: (bG t (cH l.length k)).2)
def gq (l0 : List (List Int)) (a1 : Int) : Option (Int × List (List Int)) := some (bG l0 a1)
theorem oA {α : Type} (done : List α) (l : List α) (m : Nat) (hd : done.length = m) (hm : m < l.length) (x : α) : (done ++ l.drop m).set m x = (done ++ [x]) ++ l.drop (m + 1) := by
 subst hd
 rw [List.drop_eq_getElem_cons hm, List.set_append_right _ _ (au _), Nat.sub_self, List.set_cons_zero, List.append_assoc, List.singleton_append]
set_option maxHeartbeats 2000000 in
theorem pQ (P0_ : Nat → Prop) (u9000_ : Value) (l0 : List (List Int)) (a1 : Int) (r1 : Int) (r2 : List (List Int)) (w0 w : World) (hB : Below w0.heap.size w0 w) (ho0 : Kd.S (Kd.slice 3 (Kd.int .i64)) 25 w w0.heap.size P0_ u9000_ l0) (h : gq l0 a1 = some (r1, r2)) :
  Calls Tryz.prog 18 #[u9000_, .int .i64 a1] w fun e w' => e = .returned (.int .i64 r1) ∧ Kd.S (Kd.slice 3 (Kd.int .i64)) 25 w' w0.heap.size (fun k_ => (P0_ k_ ∨ w.heap.size ≤ k_)) u9000_ r2 ∧ Below w0.heap.size w0 w' ∧ Kept w w' (fun k_ => P0_ k_) := by
 have HO := Aside0.mk (show Kd.S (Kd.slice 3 (Kd.int .i64)) 25 w w0.heap.size (fun k_ => (P0_ k_ ∨ w.heap.size ≤ k_)) u9000_ l0 from Kd.S_mono ho0 (fun k_ hk => (.inl hk)))
 unfold gq at h
 have H' := Aside0.mk (ao h)
 obtain ⟨A, c, e0⟩ := Kd.S_slice ho0
 have HL := Aside0.mk (show l0.length ≤ 9223372036854775807 by
  obtain ⟨A', c', _, _, hc⟩ := Kd.S_reads ho0
  exact hc.2.1)
 have HB0 := Aside0.mk hB
 clear h hB ho0
 subst e0
 go_enter Tryz.func18, Tryz.ntmps18
 go_wp2
 go_loopg [5, 1, 6] (l0.length + 1) (fun kq v5 v1 v6 w' => ∃ (m : Nat) (kk : Int) (done : List (List Int)), v5 = .int .i64 m ∧ v1 = .int .i64 kk ∧ Aside0 (m ≤ l0.length) ∧ Aside0 (kq = l0.length - m + 1) ∧ Aside0 (done.length = m) ∧ Aside0 ((bG (l0.drop m) kk).1 = r1 ∧ done ++ (bG (l0.drop m) kk).2 = r2) ∧ Aside0 (Kd.S (Kd.slice 3 (Kd.int .i64)) 25 w' w0.heap.size (fun k_ => (P0_ k_ ∨ w.heap.size ≤ k_)) (.slice A l0.length c) (done ++ l0.drop m)) ∧ Aside0 (Below w0.heap.size w0 w') ∧ Aside0 (Kept w w' (fun k_ => P0_ k_)))
 case atStart => exact ⟨0, a1, [], rfl, rfl, ⟨Nat.zero_le _⟩, ⟨by omega⟩, ⟨rfl⟩, ⟨by rw [List.drop_zero, H'.out]; exact ⟨rfl, rfl⟩⟩, ⟨by rw [List.drop_zero]; exact HO.out⟩, HB0, ⟨Kept.refl _ _⟩⟩
 case round =>
  clear H' HO HB0
  obtain ⟨m, kk, done, rfl, rfl, HM, HK1, HD, HA, HO, HB, HK⟩ := hrel
  have HN := Aside0.mk (show (done ++ l0.drop m).length = l0.length by rw [List.length_append, List.length_drop, HD.out]; have := HM.out; omega)
  by_cases c1 : m < l0.length
  · have q1 : (m : Int) < (l0.length : Int) := by omega
    obtain ⟨g, cap, eg, gb, gl, HG⟩ := Kd.S_form HO.out (by rw [HN.out]; omega)
    rw [HN.out] at eg
    injection eg with eA _ ec
    subst eA; subst ec
    obtain ⟨oki, cs, hcl, hM, hcc, hoki, HH⟩ := Kd.S_lend HO.out ([] : List Int) (m : Int) (by omega) q1
    obtain ⟨v, rfl, hR⟩ := hM
    have hrow : (done ++ l0.drop m).getD (m : Int).toNat [] = l0[m] := by
     rw [Int.toNat_natCast, List.getD_eq_getElem?_getD, List.getElem?_append_right (by rw [HD.out]; exact au _), HD.out, Nat.sub_self, List.getElem?_drop, Nat.add_zero, List.getElem?_eq_getElem c1, Option.getD_some]
    rw [hrow] at hR
    have hx0 := hcc 0 _ rfl
    rw [Int.toNat_natCast, show (Kd.slice 3 (Kd.int .i64)).sz = 1 from rfl, Nat.mul_one, Nat.add_zero] at hx0
    have hll : (l0[m]).length ≤ 9223372036854775807 := by
     obtain ⟨A', c', _, _, hc⟩ := Kd.R_reads hR
     exact hc.2.1
    obtain ⟨kf, hf⟩ := py l0[m] kk hll
    have HF := Aside0.mk hf
    have HRo := Aside0.mk hR
    have HHo := Aside0.mk HH
    have HOk := Aside0.mk hoki
    have HE := Aside0.mk (oA done l0 m HD.out c1 (cz (l0[m]).length kk))
    have H2 : Aside0 ((bG (l0.drop (m + 1)) (cH (l0[m]).length kk)).1 = r1 ∧ (done ++ [cz (l0[m]).length kk]) ++ (bG (l0.drop (m + 1)) (cH (l0[m]).length kk)).2 = r2) := ⟨by
     have e_ := HA.out
     rw [List.drop_eq_getElem_cons c1] at e_
     simp only [bG] at e_
     rw [List.append_assoc, List.singleton_append]
     exact e_⟩
    obtain ⟨Av, cv, ev⟩ := Kd.R_slice hR
    subst ev
    generalize hk2 : cH (l0[m]).length kk = k2 at HF H2
    generalize hs2 : cz (l0[m]).length kk = s2 at HF H2 HE
    generalize l0[m] = row at HF HRo hx0 HHo
    clear HA hcc hcl gl HG gb hR HH hoki hf hk2 hs2 hrow hll
    have c1b : decide ((m : Int) < (l0.length : Int)) = true := ag q1
    have c1c : decide (m < l0.length) = true := ag c1
    have p1 : (0 : Int) ≤ (m : Int) := by omega
    have hw1 : (m : Int) + 1 ≤ 9223372036854775807 := by have := HL.out; omega
    replace p1 := eq_true p1
    replace q1 := eq_true q1
    clear c1
    go_wp2_with (go_at_call 17; refine (jt kf oki _ row kk _ _ w0 wr HB.out HRo.out HF.out).mono ?_; rintro e w2 ⟨rfl, hy, hb, hkp⟩; have HS := Aside0.mk (Kd.H_back (Kd.H_kept HHo.out hkp (fun _ _ hn => hn)) (x' := s2) ⟨_, rfl, Kd.R_reok rfl hy (fun k_ e_ => HRo.out.1 k_ e_)⟩ (fun _ hk => hk)); have HB2 := Aside0.mk hb; have HK2 : Aside0 (Kept w w2 (fun k_ => P0_ k_)) := ⟨⟨Nat.le_trans HK.out.1 hkp.1, fun i hi hn => (hkp.2 i (Nat.lt_of_lt_of_le hi HK.out.1) (fun ho => (HOk.out i ho).1.elim hn (fun h3 => by omega))).trans (HK.out.2 i hi hn)⟩⟩; clear hy hb hkp)
    go_roundg (l0.length - m)
    case measure => have := HK1.out; have := HM.out; omega
    case rel => exact ⟨m + 1, _, done ++ [s2], by first | rfl | (simp; done) | go_num, rfl, ⟨by have := of_eq_true q1; omega⟩, ⟨by have := of_eq_true q1; omega⟩, ⟨by rw [List.length_append, HD.out]; rfl⟩, H2, ⟨by rw [← HE.out]; rw [← Int.toNat_natCast m]; exact HS.out⟩, HB2, HK2⟩
  · have q1 : ¬ (m : Int) < (l0.length : Int) := by omega
    have c1b : decide ((m : Int) < (l0.length : Int)) = false := ar q1
    have c1c : decide (m < l0.length) = false := ar c1
    have H3 : Aside0 (kk = r1 ∧ done ++ l0.drop m = r2) := ⟨by
     have e_ := HA.out
     rw [List.drop_eq_nil_of_le (show l0.length ≤ m by omega)] at e_ ⊢
     exact e_⟩
    clear HA c1 q1
    go_wp2
    go_ret
    exact ⟨by have e_ := H3.out.1; subst e_; rfl, by rw [← H3.out.2]; exact HO.out, HB.out, HK.out⟩
attribute [local go_sem] aX aT aU aM aV aN aW aQ
set_option linter.unusedVariables false
set_option linter.unusedSimpArgs false
def ea : Nat → List Int → Int → Int → Option (Int)
 | 0, _, _, _ => none
 | k + 1, x0, x1, x5 => if x5 < (x0.length : Int) then (if 0 ≤ x5 then (if (rd x0 x5) = x1 then (ea k x0 (wrap64 (x1 + 1)) (wrap64 (x5 + 1))) else (some (-1))) else (none)) else (some x1)
def gu (k : Nat) (l0 : List Int) (a1 : Int) : Option (Int) := ea k l0 a1 0
theorem lN (k : Nat) (A0 : Option Addr) (c0 : Nat) (l0 : List Int) (a1 : Int) (r : Int) (w : World) (hr0 : Kd.C (Kd.int .i64) w A0 l0.length l0) (hc0 : l0.length ≤ c0) (h : gu k l0 a1 = some r) :
 Calls Tryz.prog 26 #[.slice A0 l0.length c0, .int .i64 a1] w fun e w' => e = .returned (.int .i64 r) ∧ Drawn0 w w' := by
 have HR0 := Aside0.mk hr0
 have HC0 := Aside0.mk hc0
 clear hr0 hc0
 have H := h
 unfold gu at H
 clear h
 have H' := Aside0.mk H
 clear H
 go_enter Tryz.func26, Tryz.ntmps26
 go_wp2
 go_loopg [1, 5] k (fun kq v1 v5 w' => ∃ (x1_1 : Int) (x5_1 : Int), v1 = .int .i64 x1_1 ∧ v5 = .int .i64 x5_1 ∧ Aside0 (ea kq l0 x1_1 x5_1 = some r) ∧ Aside0 (kq ≤ k) ∧ Drawn0 w w')
 case atStart => exact ⟨(a1), (0), (by first | rfl | (simp; done) | (simp [*]; done)), (by first | rfl | (simp; done) | (simp [*]; done)), H', ⟨au _⟩, by repeat (first | exact Drawn0.refl _ | apply Drawn0.step)⟩
 case round =>
  clear H'
  try clear c2
  try clear p2
  obtain ⟨x1_1, x5_1, rfl, rfl, HA, HK1, ⟨m1, rfl⟩⟩ := hrel
  cases gk with
  | zero => exact absurd HA.out (by simp [ea])
  | succ k1 =>
   have H := HA.out
   clear HA
   simp only [ea] at H
   by_cases c3 : x5_1 < (l0.length : Int)
   · rw [if_pos c3] at H
     have c3b0 := ag c3
     clear c3
     by_cases c4 : 0 ≤ x5_1
     case neg => rw [if_neg c4] at H; simp at H
     rw [if_pos c4] at H
     have c4b0 := ag c4
     clear c4
     by_cases c5 : (rd l0 x5_1) = x1_1
     · rw [if_pos c5] at H
       have c5b0 : ((rd l0 x5_1) == x1_1) = true := beq_iff_eq.mpr c5
       have c5b1 : ((rd l0 x5_1) != x1_1) = false := bne_eq_false_iff_eq.mpr c5
       clear c5
       have H' := Aside0.mk H
       clear H
       have p136 : 0 ≤ (x5_1 : Int) := ac zA
       have q136 : x5_1 < (l0.length : Int) := ac zA
       obtain ⟨ad136, e136, hx136_0⟩ := Kd.at_int HR0.out x5_1 p136 q136
       cases e136
       replace p136 := eq_true p136
       replace q136 := eq_true q136
       go_wp2
       go_roundg k1
       case measure => have := HK1.out; omega
       case rel => exact ⟨(wrap64 (x1_1 + 1)), (wrap64 (x5_1 + 1)), (by first | rfl | (simp; done) | (simp [*]; done)), (by first | rfl | (simp; done) | (simp [*]; done)), H', ⟨by have := HK1.out; omega⟩, by repeat (first | exact Drawn0.refl _ | apply Drawn0.step)⟩
     · rw [if_neg c5] at H
       have c5b0 : ((rd l0 x5_1) == x1_1) = false := beq_eq_false_iff_ne.mpr c5
       have c5b1 : ((rd l0 x5_1) != x1_1) = true := bne_iff_ne.mpr c5
       obtain rfl := ao H
       have p136 : 0 ≤ (x5_1 : Int) := ac zA
       have q136 : x5_1 < (l0.length : Int) := ac zA
       obtain ⟨ad136, e136, hx136_0⟩ := Kd.at_int HR0.out x5_1 p136 q136
       cases e136
       replace p136 := eq_true p136
       replace q136 := eq_true q136
       go_wp2
       go_ret
       exact ⟨by first | rfl | (simp; done) | (simp [*]; done), by repeat (first | exact Drawn0.refl _ | apply Drawn0.step)⟩
   · rw [if_neg c3] at H
     have c3b0 : decide (x5_1 < (l0.length : Int)) = false := ar c3
     clear c3
     obtain rfl := ao H
     go_wp2
     go_ret
     exact ⟨by first | rfl | (simp; done) | (simp [*]; done), by repeat (first | exact Drawn0.refl _ | apply Drawn0.step)⟩
attribute [local go_sem] aX aT aU aM aV aN aW aQ
set_option linter.unusedVariables false
set_option linter.unusedSimpArgs false
def d9 : Nat → List (List Int) → Int → Int → Option (Int)
 | 0, _, _, _ => none
 | k + 1, x0, x1, x5 => if x5 < (x0.length : Int) then (if 0 ≤ x5 then ((gu k (af x0 x5) x1).bind fun t138 => (if t138 < 0 then (some (-1)) else (d9 k x0 t138 (wrap64 (x5 + 1))))) else (none)) else (some x1)
def fx (k : Nat) (l0 : List (List Int)) (a1 : Int) : Option (Int) := d9 k l0 a1 0
theorem lM (k : Nat) (A0 : Option Addr) (c0 : Nat) (l0 : List (List Int)) (a1 : Int) (r : Int) (w : World) (hr0 : Kd.C (Kd.slice 3 (Kd.int .i64)) w A0 l0.length l0) (hc0 : l0.length ≤ c0) (h : fx k l0 a1 = some r) :
 Calls Tryz.prog 19 #[.slice A0 l0.length c0, .int .i64 a1] w fun e w' => e = .returned (.int .i64 r) ∧ Drawn0 w w' := by
 have HR0 := Aside0.mk hr0
 have HC0 := Aside0.mk hc0
 clear hr0 hc0
 have H := h
 unfold fx at H
 clear h
 have H' := Aside0.mk H
 clear H
 go_enter Tryz.func19, Tryz.ntmps19
 go_wp2
 go_loopg [1, 5] k (fun kq v1 v5 w' => ∃ (x1_1 : Int) (x5_1 : Int), v1 = .int .i64 x1_1 ∧ v5 = .int .i64 x5_1 ∧ Aside0 (d9 kq l0 x1_1 x5_1 = some r) ∧ Aside0 (kq ≤ k) ∧ Drawn0 w w')
 case atStart => exact ⟨(a1), (0), (by first | rfl | (simp; done) | (simp [*]; done)), (by first | rfl | (simp; done) | (simp [*]; done)), H', ⟨au _⟩, by repeat (first | exact Drawn0.refl _ | apply Drawn0.step)⟩
 case round =>
  clear H'
  try clear c1
  try clear p2
  obtain ⟨x1_1, x5_1, rfl, rfl, HA, HK1, ⟨m1, rfl⟩⟩ := hrel
  cases gk with
  | zero => exact absurd HA.out (by simp [d9])
  | succ k1 =>
   have H := HA.out
   clear HA
   simp only [d9] at H
   by_cases c3 : x5_1 < (l0.length : Int)
   · rw [if_pos c3] at H
     have c3b0 := ag c3
     clear c3
     by_cases c4 : 0 ≤ x5_1
     case neg => rw [if_neg c4] at H; simp at H
     rw [if_pos c4] at H
     have c4b0 := ag c4
     clear c4
     replace H := ax H
     obtain ⟨t138, A50, H⟩ := H
     have A5 := Aside0.mk A50
     clear A50
     by_cases c6 : t138 < 0
     · rw [if_pos c6] at H
       have c6b0 := ag c6
       clear c6
       obtain rfl := ao H
       have p137 : 0 ≤ (x5_1 : Int) := ac zA
       have q137 : x5_1 < (l0.length : Int) := ac zA
       obtain ⟨ad137, A137_0, c137_0, e137, hx137_0, hl137_0, hi137_0⟩ := bf HR0.out x5_1 p137 q137
       cases e137
       have HR137_0 := Aside0.mk hi137_0
       have HC137_0 := Aside0.mk hl137_0
       clear hi137_0 hl137_0
       replace p137 := eq_true p137
       replace q137 := eq_true q137
       go_wp2_with (first | ((with_reducible refine ay (f := 26) rfl ?_); refine zc 17 Tryz.func26 #[.slice A137_0 (af l0 x5_1).length c137_0, .int .i64 x1_1] ?_; (with_reducible refine (lN k1 _ _ (af l0 x5_1) x1_1 t138 _ ?side1 ?side2 A5.out).mono ?_); (case side1 => exact zC HR137_0.out); (case side2 => exact HC137_0.out); rintro e w' ⟨rfl, ⟨nd, rfl⟩⟩; refine ⟨_, rfl, ?_⟩))
       go_ret
       exact ⟨by first | rfl | (simp; done) | (simp [*]; done), by repeat (first | exact Drawn0.refl _ | apply Drawn0.step)⟩
     · rw [if_neg c6] at H
       have c6b0 : decide (t138 < 0) = false := ar c6
       clear c6
       have H' := Aside0.mk H
       clear H
       have p137 : 0 ≤ (x5_1 : Int) := ac zA
       have q137 : x5_1 < (l0.length : Int) := ac zA
       obtain ⟨ad137, A137_0, c137_0, e137, hx137_0, hl137_0, hi137_0⟩ := bf HR0.out x5_1 p137 q137
       cases e137
       have HR137_0 := Aside0.mk hi137_0
       have HC137_0 := Aside0.mk hl137_0
       clear hi137_0 hl137_0
       replace p137 := eq_true p137
       replace q137 := eq_true q137
       go_wp2_with (first | ((with_reducible refine ay (f := 26) rfl ?_); refine zc 17 Tryz.func26 #[.slice A137_0 (af l0 x5_1).length c137_0, .int .i64 x1_1] ?_; (with_reducible refine (lN k1 _ _ (af l0 x5_1) x1_1 t138 _ ?side1 ?side2 A5.out).mono ?_); (case side1 => exact zC HR137_0.out); (case side2 => exact HC137_0.out); rintro e w' ⟨rfl, ⟨nd, rfl⟩⟩; refine ⟨_, rfl, ?_⟩))
       go_roundg k1
       case measure => have := HK1.out; omega
       case rel => exact ⟨(t138), (wrap64 (x5_1 + 1)), (by first | rfl | (simp; done) | (simp [*]; done)), (by first | rfl | (simp; done) | (simp [*]; done)), H', ⟨by have := HK1.out; omega⟩, by repeat (first | exact Drawn0.refl _ | apply Drawn0.step)⟩
   · rw [if_neg c3] at H
     have c3b0 : decide (x5_1 < (l0.length : Int)) = false := ar c3
     clear c3
     obtain rfl := ao H
     go_wp2
     go_ret
     exact ⟨by first | rfl | (simp; done) | (simp [*]; done), by repeat (first | exact Drawn0.refl _ | apply Drawn0.step)⟩
set_option maxHeartbeats 4000000 in
theorem pY (a0_0 : Int) (A0_1 : Option Addr) (ca0_1 : Nat) (l0_1 : List (S69)) (A1 : Option Addr) (ca1 : Nat) (l1 : List Int) (A2 : Option Addr) (ca2 : Nat) (l2 : List Int) (w : World) (hr0_1 : Kd.C k69 w A0_1 l0_1.length l0_1) (hc0_1 : l0_1.length ≤ ca0_1) (hr1 : Kd.C (Kd.int .i64) w A1 l1.length l1) (hc1 : l1.length ≤ ca1) (hr2 : Kd.C (Kd.int .i64) w A2 l2.length l2) (hc2 : l2.length ≤ ca2) (c0 : 1048576 < (l1.length : Int)) :
  Calls Tryz.prog 4 #[.agg #[.int .i64 a0_0, .slice A0_1 l0_1.length ca0_1], .slice A1 l1.length ca1, .slice A2 l2.length ca2] w fun e w' => e = .returned (.bool true) ∧ Below w.heap.size w w' := by
 have hu24 := Tryz.underlying24
 have hu30 := Tryz.underlying30
 have HR0_1 := zM hr0_1; clear hr0_1
 have HC0_1 := zM hc0_1; clear hc0_1
 have HR1 := zM hr1; clear hr1
 have HC1 := zM hc1; clear hc1
 have HR2 := zM hr2; clear hr2
 have HC2 := zM hc2; clear hc2
 have HB := zM (Below.refl w.heap.size w)
 have c0b : decide (1048576 < (l1.length : Int)) = true := ag c0
 have c0c : decide (1048576 < l1.length) = true := ag (by omega)
 clear c0
 go_enter Tryz.func4, Tryz.ntmps4
 go_wp2_with (first
  | ((with_reducible refine ap (N := 3) rfl ?_); refine ze 3 #[.int .i64 a0_0, .slice A0_1 l0_1.length ca0_1] 24 ?_; intro gb3 hg w1 hbox hb; have HG3 := zM hg; have HW3 := zM (show w.heap.size ≤ gb3 by rw [hg]; exact ai HB.out); have HL3 := zM (aA hbox); clear hg; have HS1 := zM hb.size; replace HB := zM (ah HB.out hb); have BK3 := zM hbox; clear hbox hb; have hc3_0 := zy BK3 0; have hf3_0 := ae BK3.out 0; have hc3_1 := zy BK3 1; have hf3_1 := ae BK3.out 1))
 go_ret
 exact ⟨rfl, HB.out⟩
set_option maxHeartbeats 4000000 in
theorem pX (a0_0 : Int) (A0_1 : Option Addr) (ca0_1 : Nat) (l0_1 : List (S69)) (A1 : Option Addr) (ca1 : Nat) (l1 : List Int) (A2 : Option Addr) (ca2 : Nat) (l2 : List Int) (w : World) (hr0_1 : Kd.C k69 w A0_1 l0_1.length l0_1) (hc0_1 : l0_1.length ≤ ca0_1) (hr1 : Kd.C (Kd.int .i64) w A1 l1.length l1) (hc1 : l1.length ≤ ca1) (hr2 : Kd.C (Kd.int .i64) w A2 l2.length l2) (hc2 : l2.length ≤ ca2) (c0 : ¬ (1048576 < (l1.length : Int))) (c1 : 1048576 < (l2.length : Int)) :
  Calls Tryz.prog 4 #[.agg #[.int .i64 a0_0, .slice A0_1 l0_1.length ca0_1], .slice A1 l1.length ca1, .slice A2 l2.length ca2] w fun e w' => e = .returned (.bool true) ∧ Below w.heap.size w w' := by
 have hu24 := Tryz.underlying24
 have hu30 := Tryz.underlying30
 have HR0_1 := zM hr0_1; clear hr0_1
 have HC0_1 := zM hc0_1; clear hc0_1
 have HR1 := zM hr1; clear hr1
 have HC1 := zM hc1; clear hc1
 have HR2 := zM hr2; clear hr2
 have HC2 := zM hc2; clear hc2
 have HB := zM (Below.refl w.heap.size w)
 have c0b : decide (1048576 < (l1.length : Int)) = false := ar c0
 have c0c : decide (1048576 < l1.length) = false := ar (by omega)
 clear c0
 have c1b : decide (1048576 < (l2.length : Int)) = true := ag c1
 have c1c : decide (1048576 < l2.length) = true := ag (by omega)
 clear c1
 go_enter Tryz.func4, Tryz.ntmps4
 go_wp2_with (first
  | ((with_reducible refine ap (N := 3) rfl ?_); refine ze 3 #[.int .i64 a0_0, .slice A0_1 l0_1.length ca0_1] 24 ?_; intro gb3 hg w1 hbox hb; have HG3 := zM hg; have HW3 := zM (show w.heap.size ≤ gb3 by rw [hg]; exact ai HB.out); have HL3 := zM (aA hbox); clear hg; have HS1 := zM hb.size; replace HB := zM (ah HB.out hb); have BK3 := zM hbox; clear hbox hb; have hc3_0 := zy BK3 0; have hf3_0 := ae BK3.out 0; have hc3_1 := zy BK3 1; have hf3_1 := ae BK3.out 1))
 go_ret
 exact ⟨rfl, HB.out⟩
set_option maxHeartbeats 4000000 in
theorem pW (a0_0 : Int) (A0_1 : Option Addr) (ca0_1 : Nat) (l0_1 : List (S69)) (A1 : Option Addr) (ca1 : Nat) (l1 : List Int) (A2 : Option Addr) (ca2 : Nat) (l2 : List Int) (t0 : Int) (w : World) (hr0_1 : Kd.C k69 w A0_1 l0_1.length l0_1) (hc0_1 : l0_1.length ≤ ca0_1) (hr1 : Kd.C (Kd.int .i64) w A1 l1.length l1) (hc1 : l1.length ≤ ca1) (hr2 : Kd.C (Kd.int .i64) w A2 l2.length l2) (hc2 : l2.length ≤ ca2) (c0 : ¬ (1048576 < (l1.length : Int))) (c1 : ¬ (1048576 < (l2.length : Int))) (c2 : t0 < 0) (h0 : fw a0_0 l0_1 1048576 = some t0) :
  Calls Tryz.prog 4 #[.agg #[.int .i64 a0_0, .slice A0_1 l0_1.length ca0_1], .slice A1 l1.length ca1, .slice A2 l2.length ca2] w fun e w' => e = .returned (.bool true) ∧ Below w.heap.size w w' := by
 have hu24 := Tryz.underlying24
 have hu30 := Tryz.underlying30
 have HR0_1 := zM hr0_1; clear hr0_1
 have HC0_1 := zM hc0_1; clear hc0_1
 have HR1 := zM hr1; clear hr1
 have HC1 := zM hc1; clear hc1
 have HR2 := zM hr2; clear hr2
 have HC2 := zM hc2; clear hc2
 have HB := zM (Below.refl w.heap.size w)
 have H0 := zM h0; clear h0
 have c0b : decide (1048576 < (l1.length : Int)) = false := ar c0
 have c0c : decide (1048576 < l1.length) = false := ar (by omega)
 clear c0
 have c1b : decide (1048576 < (l2.length : Int)) = false := ar c1
 have c1c : decide (1048576 < l2.length) = false := ar (by omega)
 clear c1
 have c2b : decide (t0 < 0) = true := ag c2
 clear c2
 go_enter Tryz.func4, Tryz.ntmps4
 go_wp2_with (first
  | ((with_reducible refine ap (N := 3) rfl ?_); refine ze 3 #[.int .i64 a0_0, .slice A0_1 l0_1.length ca0_1] 24 ?_; intro gb3 hg w1 hbox hb; have HG3 := zM hg; have HW3 := zM (show w.heap.size ≤ gb3 by rw [hg]; exact ai HB.out); have HL3 := zM (aA hbox); clear hg; have HS1 := zM hb.size; replace HB := zM (ah HB.out hb); have BK3 := zM hbox; clear hbox hb; have hc3_0 := zy BK3 0; have hf3_0 := ae BK3.out 0; have hc3_1 := zy BK3 1; have hf3_1 := ae BK3.out 1)
  | (have hst_ : Aside0 (Below w.heap.size w w1) := HB; clear hst_; go_at_call 8; refine (lL a0_0 _ _ l0_1 1048576 t0 _ ?side1 ?side2 H0.out).mono ?_; (case side1 => exact zC (Kd.C_below HR0_1.out HB.out)); (case side2 => exact HC0_1.out); rintro e w2 ⟨rfl, hb⟩; replace BK3 := bj BK3 hb; have HS2 := zM hb.size; replace HB := zM (ah HB.out hb); clear hb; replace hc3_0 := zy BK3 0; replace hf3_0 := ae BK3.out 0; replace hc3_1 := zy BK3 1; replace hf3_1 := ae BK3.out 1))
 go_ret
 exact ⟨rfl, HB.out⟩
set_option maxHeartbeats 4000000 in
theorem pV (a0_0 : Int) (A0_1 : Option Addr) (ca0_1 : Nat) (l0_1 : List (S69)) (A1 : Option Addr) (ca1 : Nat) (l1 : List Int) (A2 : Option Addr) (ca2 : Nat) (l2 : List Int) (k1 k2 k3 k4 k5 k6 k7 k8 k9 k11 k12 k14 : Nat) (t0 : Int) (q0 : List (List Int)) (q1 : Bool) (kk0 : Int) (mk0_0 : List (S69)) (kk1 : Int) (mk1_0 : List Int) (kk2 : Int) (mk2_0 : List Int) (kk3 : Int) (mk3_0 : List (List Int)) (w : World) (hr0_1 : Kd.C k69 w A0_1 l0_1.length l0_1) (hc0_1 : l0_1.length ≤ ca0_1) (hr1 : Kd.C (Kd.int .i64) w A1 l1.length l1) (hc1 : l1.length ≤ ca1) (hr2 : Kd.C (Kd.int .i64) w A2 l2.length l2) (hc2 : l2.length ≤ ca2) (c0 : ¬ (1048576 < (l1.length : Int))) (c1 : ¬ (1048576 < (l2.length : Int))) (c2 : ¬ (t0 < 0)) (h0 : fw a0_0 l0_1 1048576 = some t0) (h1 : gp k1 a0_0 l0_1 = some (a0_0, l0_1)) (h2 : fu k2 l1 = some l1) (h3 : fu k3 l2 = some l2) (h4 : fi k4 a0_0 l0_1 l1 l2 = some (q0, q1)) (h5 : fH k5 a0_0 l0_1 l1 l2 = some (q0, q1)) (h6 : gv k6 q0 q0 = some true) (h7 : gx k7 a0_0 l0_1 a0_0 l0_1 = some true) (h8 : eO k8 l1 l1 = some true) (h9 : eO k9 l2 l2 = some true) (h10 : gr a0_0 l0_1 1 = some (kk0, mk0_0)) (h11 : dx k11 l1 kk0 = some (kk1, mk1_0)) (h12 : dx k12 l2 kk1 = some (kk2, mk2_0)) (h13 : gq q0 1 = some (kk3, mk3_0)) (h14 : fx k14 mk3_0 1 = some kk3) (nkk2 : ¬ (kk2 < 0)) (nkk3 : ¬ (kk3 < 0)) :
  Calls Tryz.prog 4 #[.agg #[.int .i64 a0_0, .slice A0_1 l0_1.length ca0_1], .slice A1 l1.length ca1, .slice A2 l2.length ca2] w fun e w' => e = .returned (.bool true) ∧ Below w.heap.size w w' := by
 have hu24 := Tryz.underlying24
 have hu30 := Tryz.underlying30
 have HR0_1 := zM hr0_1; clear hr0_1
 have HC0_1 := zM hc0_1; clear hc0_1
 have HR1 := zM hr1; clear hr1
 have HC1 := zM hc1; clear hc1
 have HR2 := zM hr2; clear hr2
 have HC2 := zM hc2; clear hc2
 have HB := zM (Below.refl w.heap.size w)
 have H0 := zM h0; clear h0
 have H1 := zM h1; clear h1
 have H2 := zM h2; clear h2
 have H3 := zM h3; clear h3
 have H4 := zM h4; clear h4
 have H5 := zM h5; clear h5
 have H6 := zM h6; clear h6
 have H7 := zM h7; clear h7
 have H8 := zM h8; clear h8
 have H9 := zM h9; clear h9
 have H10 := zM h10; clear h10
 have H11 := zM h11; clear h11
 have H12 := zM h12; clear h12
 have H13 := zM h13; clear h13
 have H14 := zM h14; clear h14
 have c0b : decide (1048576 < (l1.length : Int)) = false := ar c0
 have c0c : decide (1048576 < l1.length) = false := ar (by omega)
 clear c0
 have c1b : decide (1048576 < (l2.length : Int)) = false := ar c1
 have c1c : decide (1048576 < l2.length) = false := ar (by omega)
 clear c1
 have c2b : decide (t0 < 0) = false := ar c2
 clear c2
 have nkk2b : decide (kk2 < 0) = false := ar nkk2
 clear nkk2
 have nkk3b : decide (kk3 < 0) = false := ar nkk3
 clear nkk3
 go_enter Tryz.func4, Tryz.ntmps4
 go_upto_region 16 with (first
  | ((with_reducible refine ap (N := 3) rfl ?_); refine ze 3 #[.int .i64 a0_0, .slice A0_1 l0_1.length ca0_1] 24 ?_; intro gb3 hg w1 hbox hb; have HG3 := zM hg; have HW3 := zM (show w.heap.size ≤ gb3 by rw [hg]; exact ai HB.out); have HL3 := zM (aA hbox); clear hg; have HS1 := zM hb.size; replace HB := zM (ah HB.out hb); have BK3 := zM hbox; clear hbox hb; have hc3_0 := zy BK3 0; have hf3_0 := ae BK3.out 0; have hc3_1 := zy BK3 1; have hf3_1 := ae BK3.out 1)
  | (have hst_ : Aside0 (Below w.heap.size w w1) := HB; clear hst_; go_at_call 8; refine (lL a0_0 _ _ l0_1 1048576 t0 _ ?side1 ?side2 H0.out).mono ?_; (case side1 => exact zC (Kd.C_below HR0_1.out HB.out)); (case side2 => exact HC0_1.out); rintro e w2 ⟨rfl, hb⟩; replace BK3 := bj BK3 hb; have HS2 := zM hb.size; replace HB := zM (ah HB.out hb); clear hb; replace hc3_0 := zy BK3 0; replace hf3_0 := ae BK3.out 0; replace hc3_1 := zy BK3 1; replace hf3_1 := ae BK3.out 1)
  | (have hst_ : Aside0 (Below w.heap.size w w2) := HB; clear hst_; go_at_call 10; refine (ik k1 a0_0 _ _ l0_1 a0_0 l0_1 _ ?side1 ?side2 H1.out).mono ?_; (case side1 => exact zC (Kd.C_below HR0_1.out HB.out)); (case side2 => exact HC0_1.out); rintro e w3 ⟨v0_0, rfl, ho0, hb⟩; replace BK3 := bj BK3 hb; have HS3 := zM hb.size; have HO0_0 := uR HB.out (by first | exact ho0 | exact Kd.R_mono ho0 (fun _ _ => trivial) | exact Kd.R_mono ho0 (fun _ hk_ => hk_.1)); clear ho0; obtain ⟨Ao0_0, co0_0, eo0_0⟩ := Kd.R_slice HO0_0.out; subst eo0_0; replace HB := zM (ah HB.out hb); clear hb; replace hc3_0 := zy BK3 0; replace hf3_0 := ae BK3.out 0; replace hc3_1 := zy BK3 1; replace hf3_1 := ae BK3.out 1)
  | (have hst_ : Aside0 (Below w.heap.size w w3) := HB; clear hst_; go_at_call 11; refine (d8 k2 _ _ l1 l1 _ ?side1 ?side2 H2.out).mono ?_; (case side1 => exact zC (Kd.C_below HR1.out HB.out)); (case side2 => exact HC1.out); rintro e w4 ⟨v1_0, rfl, ho0, hb⟩; replace HO0_0 := bd HO0_0 hb; replace BK3 := bj BK3 hb; have HS4 := zM hb.size; have HO1_0 := uR HB.out (by first | exact ho0 | exact Kd.R_mono ho0 (fun _ _ => trivial) | exact Kd.R_mono ho0 (fun _ hk_ => hk_.1)); clear ho0; obtain ⟨Ao1_0, co1_0, eo1_0⟩ := Kd.R_slice HO1_0.out; subst eo1_0; replace HB := zM (ah HB.out hb); clear hb; replace hc3_0 := zy BK3 0; replace hf3_0 := ae BK3.out 0; replace hc3_1 := zy BK3 1; replace hf3_1 := ae BK3.out 1)
  | (have hst_ : Aside0 (Below w.heap.size w w4) := HB; clear hst_; go_at_call 11; refine (d8 k3 _ _ l2 l2 _ ?side1 ?side2 H3.out).mono ?_; (case side1 => exact zC (Kd.C_below HR2.out HB.out)); (case side2 => exact HC2.out); rintro e w5 ⟨v2_0, rfl, ho0, hb⟩; replace HO0_0 := bd HO0_0 hb; replace HO1_0 := bd HO1_0 hb; replace BK3 := bj BK3 hb; have HS5 := zM hb.size; have HO2_0 := uR HB.out (by first | exact ho0 | exact Kd.R_mono ho0 (fun _ _ => trivial) | exact Kd.R_mono ho0 (fun _ hk_ => hk_.1)); clear ho0; obtain ⟨Ao2_0, co2_0, eo2_0⟩ := Kd.R_slice HO2_0.out; subst eo2_0; replace HB := zM (ah HB.out hb); clear hb; replace hc3_0 := zy BK3 0; replace hf3_0 := ae BK3.out 0; replace hc3_1 := zy BK3 1; replace hf3_1 := ae BK3.out 1)
  | (have hst_ : Aside0 (Below w.heap.size w w5) := HB; clear hst_; go_at_call 20; refine (n7 k4 a0_0 _ _ l0_1 _ _ l1 _ _ l2 q0 q1 _ ?side1 ?side2 ?side3 ?side4 ?side5 ?side6 H4.out).mono ?_; (case side1 => exact zC (Kd.R_reads' HO0_0.out).2.2); (case side2 => exact (Kd.R_reads' HO0_0.out).2.1); (case side3 => exact zC (Kd.R_reads' HO1_0.out).2.2); (case side4 => exact (Kd.R_reads' HO1_0.out).2.1); (case side5 => exact zC (Kd.R_reads' HO2_0.out).2.2); (case side6 => exact (Kd.R_reads' HO2_0.out).2.1); clear HO0_0; clear HO1_0; clear HO2_0; rintro e w6 ⟨v3_0, rfl, ho0, hb⟩; replace BK3 := bj BK3 hb; have HS6 := zM hb.size; have HO3_0 := uV HB.out (by first | exact ho0 | exact Kd.V_mono ho0 (fun _ _ => trivial) | exact Kd.V_mono ho0 (fun _ hk_ => hk_.1)); clear ho0; obtain ⟨Ao3_0, co3_0, eo3_0⟩ := Kd.V_slice HO3_0.out; subst eo3_0; replace HB := zM (ah HB.out hb); clear hb; replace hc3_0 := zy BK3 0; replace hf3_0 := ae BK3.out 0; replace hc3_1 := zy BK3 1; replace hf3_1 := ae BK3.out 1)
  | (have hst_ : Aside0 (Below w.heap.size w w6) := HB; clear hst_; go_at_call 10; refine (ik k1 a0_0 _ _ l0_1 a0_0 l0_1 _ ?side1 ?side2 H1.out).mono ?_; (case side1 => exact zC (Kd.C_below HR0_1.out HB.out)); (case side2 => exact HC0_1.out); rintro e w7 ⟨v4_0, rfl, ho0, hb⟩; replace HO3_0 := bN HO3_0 hb; replace BK3 := bj BK3 hb; have HS7 := zM hb.size; have HO4_0 := uR HB.out (by first | exact ho0 | exact Kd.R_mono ho0 (fun _ _ => trivial) | exact Kd.R_mono ho0 (fun _ hk_ => hk_.1)); clear ho0; obtain ⟨Ao4_0, co4_0, eo4_0⟩ := Kd.R_slice HO4_0.out; subst eo4_0; replace HB := zM (ah HB.out hb); clear hb; replace hc3_0 := zy BK3 0; replace hf3_0 := ae BK3.out 0; replace hc3_1 := zy BK3 1; replace hf3_1 := ae BK3.out 1)
  | ((with_reducible refine ap (N := 10) rfl ?_); refine ze 10 #[.int .i64 0, .slice none 0 0] 30 ?_; intro gb10 hg w8 hbox hb; have HG10 := zM hg; have HW10 := zM (show w.heap.size ≤ gb10 by rw [hg]; exact ai HB.out); have HL10 := zM (aA hbox); clear hg; replace HO3_0 := bN HO3_0 hb; replace HO4_0 := bd HO4_0 hb; replace BK3 := bj BK3 hb; have HS8 := zM hb.size; replace HB := zM (ah HB.out hb); have hn3_10 : gb3 ≠ gb10 := (by have := HG10.out; have := HL3.out; have := HS2.out; have := HS3.out; have := HS4.out; have := HS5.out; have := HS6.out; have := HS7.out; omega); have hn10_3 := hn3_10.symm; have BK10 := zM hbox; clear hbox hb; replace hc3_0 := zy BK3 0; replace hf3_0 := ae BK3.out 0; replace hc3_1 := zy BK3 1; replace hf3_1 := ae BK3.out 1; have hc10_0 := zy BK10 0; have hf10_0 := ae BK10.out 0; have hc10_1 := zy BK10 1; have hf10_1 := ae BK10.out 1)
  | (have hst_ : Aside0 (Below w.heap.size w w8) := HB; clear hst_; go_at_call 11; refine kv BK10 HB HW10.out ?_; intro w9 BKn hk HBn; replace HO3_0 := fU HO3_0 hk (fun k_ hk_ e_ => by have e2 : k_ = gb10 := e_; have := HG10.out; have := HL10.out; have h2 : w5.heap.size ≤ k_ ∧ k_ < w6.heap.size := hk_; have := HS7.out; omega); replace HO4_0 := gW HO4_0 hk (fun k_ hk_ e_ => by have e2 : k_ = gb10 := e_; have := HG10.out; have := HL10.out; have h2 : w6.heap.size ≤ k_ ∧ k_ < w7.heap.size := hk_; omega); replace BK3 := fV BK3 hk (fun e_ => by have e2 : gb3 = gb10 := e_; have := HG10.out; have := HL10.out; have := HG3.out; have := HL3.out; have := HS2.out; have := HS3.out; have := HS4.out; have := HS5.out; have := HS6.out; have := HS7.out; omega); replace BK10 := BKn; replace HB := HBn; clear BKn HBn; have HS9 := zM hk.1; clear hk; refine (d8 k2 _ _ l1 l1 _ ?side1 ?side2 H2.out).mono ?_; (case side1 => exact zC (Kd.C_below HR1.out HB.out)); (case side2 => exact HC1.out); rintro e w10 ⟨v5_0, rfl, ho0, hb⟩; replace HO3_0 := bN HO3_0 hb; replace HO4_0 := bd HO4_0 hb; replace BK3 := bj BK3 hb; replace BK10 := bj BK10 hb; have HS10 := zM hb.size; have HO5_0 := uR HB.out (by first | exact ho0 | exact Kd.R_mono ho0 (fun _ _ => trivial) | exact Kd.R_mono ho0 (fun _ hk_ => hk_.1)); clear ho0; obtain ⟨Ao5_0, co5_0, eo5_0⟩ := Kd.R_slice HO5_0.out; subst eo5_0; replace HB := zM (ah HB.out hb); clear hb; replace hc3_0 := zy BK3 0; replace hf3_0 := ae BK3.out 0; replace hc3_1 := zy BK3 1; replace hf3_1 := ae BK3.out 1; replace hc10_0 := zy BK10 0; replace hf10_0 := ae BK10.out 0; replace hc10_1 := zy BK10 1; replace hf10_1 := ae BK10.out 1)
  | (have hst_ : Aside0 (Below w.heap.size w w10) := HB; clear hst_; go_at_call 11; refine (d8 k3 _ _ l2 l2 _ ?side1 ?side2 H3.out).mono ?_; (case side1 => exact zC (Kd.C_below HR2.out HB.out)); (case side2 => exact HC2.out); rintro e w11 ⟨v6_0, rfl, ho0, hb⟩; replace HO3_0 := bN HO3_0 hb; replace HO4_0 := bd HO4_0 hb; replace HO5_0 := bd HO5_0 hb; replace BK3 := bj BK3 hb; replace BK10 := bj BK10 hb; have HS11 := zM hb.size; have HO6_0 := uR HB.out (by first | exact ho0 | exact Kd.R_mono ho0 (fun _ _ => trivial) | exact Kd.R_mono ho0 (fun _ hk_ => hk_.1)); clear ho0; obtain ⟨Ao6_0, co6_0, eo6_0⟩ := Kd.R_slice HO6_0.out; subst eo6_0; replace HB := zM (ah HB.out hb); clear hb; replace hc3_0 := zy BK3 0; replace hf3_0 := ae BK3.out 0; replace hc3_1 := zy BK3 1; replace hf3_1 := ae BK3.out 1; replace hc10_0 := zy BK10 0; replace hf10_0 := ae BK10.out 0; replace hc10_1 := zy BK10 1; replace hf10_1 := ae BK10.out 1)
  | (have hst_ : Aside0 (Below w.heap.size w w11) := HB; clear hst_; go_at_call 21; refine (l7 k5 a0_0 _ _ l0_1 _ _ l1 _ _ l2 q0 q1 _ ?side1 ?side2 ?side3 ?side4 ?side5 ?side6 H5.out).mono ?_; (case side1 => exact zC (Kd.R_reads' HO4_0.out).2.2); (case side2 => exact (Kd.R_reads' HO4_0.out).2.1); (case side3 => exact zC (Kd.R_reads' HO5_0.out).2.2); (case side4 => exact (Kd.R_reads' HO5_0.out).2.1); (case side5 => exact zC (Kd.R_reads' HO6_0.out).2.2); (case side6 => exact (Kd.R_reads' HO6_0.out).2.1); rintro e w12 ⟨v7_0, rfl, ho0, hb⟩; replace HO3_0 := bN HO3_0 hb; replace HO4_0 := bd HO4_0 hb; replace HO5_0 := bd HO5_0 hb; replace HO6_0 := bd HO6_0 hb; replace BK3 := bj BK3 hb; replace BK10 := bj BK10 hb; have HS12 := zM hb.size; have HO7_0 := uS HB.out (by first | exact ho0 | exact Kd.S_mono ho0 (fun _ _ => trivial) | exact Kd.S_mono ho0 (fun _ hk_ => hk_.1)); clear ho0; obtain ⟨Ao7_0, co7_0, eo7_0⟩ := Kd.S_slice HO7_0.out; subst eo7_0; replace HB := zM (ah HB.out hb); clear hb; replace hc3_0 := zy BK3 0; replace hf3_0 := ae BK3.out 0; replace hc3_1 := zy BK3 1; replace hf3_1 := ae BK3.out 1; replace hc10_0 := zy BK10 0; replace hf10_0 := ae BK10.out 0; replace hc10_1 := zy BK10 1; replace hf10_1 := ae BK10.out 1)
  | (have hst_ : Aside0 (Below w.heap.size w w12) := HB; clear hst_; go_at_call 13; refine (jv k6 _ _ q0 _ _ q0 true _ ?side1 ?side2 ?side3 ?side4 H6.out).mono ?_; (case side1 => exact zC (Kd.S_reads' HO7_0.out).2.2); (case side2 => exact (Kd.S_reads' HO7_0.out).2.1); (case side3 => exact zC (Kd.V_reads' HO3_0.out).2.2); (case side4 => exact (Kd.V_reads' HO3_0.out).2.1); rintro e w13 ⟨rfl, hb0⟩; have hb := hb0.below; clear hb0; replace HO3_0 := bN HO3_0 hb; replace HO4_0 := bd HO4_0 hb; replace HO5_0 := bd HO5_0 hb; replace HO6_0 := bd HO6_0 hb; replace HO7_0 := cl HO7_0 hb; replace BK3 := bj BK3 hb; replace BK10 := bj BK10 hb; have HS13 := zM hb.size; replace HB := zM (ah HB.out hb); clear hb; replace hc3_0 := zy BK3 0; replace hf3_0 := ae BK3.out 0; replace hc3_1 := zy BK3 1; replace hf3_1 := ae BK3.out 1; replace hc10_0 := zy BK10 0; replace hf10_0 := ae BK10.out 0; replace hc10_1 := zy BK10 1; replace hf10_1 := ae BK10.out 1))
 (try simp only [Act.put, List.setIfInBounds_toArray, List.set_cons_zero, List.set_cons_succ])
 replace HO3_0 := zM (Kd.V_drew HO3_0.out)
 replace HO4_0 := zM (Kd.R_drew HO4_0.out)
 replace HO5_0 := zM (Kd.R_drew HO5_0.out)
 replace HO6_0 := zM (Kd.R_drew HO6_0.out)
 replace HO7_0 := zM (Kd.S_drew HO7_0.out)
 replace BK3 := zM (aq BK3.out)
 replace BK10 := zM (aq BK10.out)
 replace HB := zM (aC HB.out)
 refine zs (n := 5) (fun w' => w'.cell? ⟨gb10, 0, none⟩ = some (.int .i64 a0_0) ∧ w'.cell? ⟨gb10, 1, none⟩ = some (.slice Ao4_0 l0_1.length co4_0) ∧ w'.cell? ⟨gb3, 0, none⟩ = some (.int .i64 a0_0) ∧ w'.cell? ⟨gb3, 1, none⟩ = some (.slice A0_1 l0_1.length ca0_1)) ⟨(am BK10.out 0).trans rfl, (am BK10.out 1).trans rfl, (am BK3.out 0).trans rfl, (am BK3.out 1).trans rfl⟩ (fun hHeld => ?_)
 have HS14 := zM (show w13.heap.size ≤ w13.drew.heap.size from au _)
 generalize w13.drew = w14 at HO3_0 HO4_0 HO5_0 HO6_0 HO7_0 BK3 BK10 HB HS14 hHeld ⊢
 refine zl 0 63 hHeld ?_ (hy := by rintro w' ⟨s0, s1, s2, s3⟩; go_simp; with_reducible rfl)
 refine zl 1 64 hHeld ?_ (hy := by rintro w' ⟨s0, s1, s2, s3⟩; go_simp; with_reducible rfl)
 refine zh 2 65 Tryz.func10 #[.agg #[.int .i64 a0_0, .slice A0_1 l0_1.length ca0_1]] (fun K hK => ?_)
 (refine (ik k1 a0_0 _ _ l0_1 a0_0 l0_1 _ ?side1 ?side2 H1.out).mono ?_; (case side1 => exact zC (Kd.C_below HR0_1.out HB.out)); (case side2 => exact HC0_1.out); rintro e w15 ⟨v8_0, rfl, ho0, hb⟩; replace HO3_0 := bN HO3_0 hb; replace HO4_0 := bd HO4_0 hb; replace HO5_0 := bd HO5_0 hb; replace HO6_0 := bd HO6_0 hb; replace HO7_0 := cl HO7_0 hb; replace BK3 := bj BK3 hb; replace BK10 := bj BK10 hb; have HS15 := zM hb.size; have HO8_0 := uR HB.out (by first | exact ho0 | exact Kd.R_mono ho0 (fun _ _ => trivial) | exact Kd.R_mono ho0 (fun _ hk_ => hk_.1)); clear ho0; obtain ⟨Ao8_0, co8_0, eo8_0⟩ := Kd.R_slice HO8_0.out; subst eo8_0; replace HB := zM (ah HB.out hb); clear hb)
 refine ⟨_, rfl, ?_⟩
 refine hK.out _ _ ⟨(am BK10.out 0).trans rfl, (am BK10.out 1).trans rfl, (am BK3.out 0).trans rfl, (am BK3.out 1).trans rfl⟩ (fun hHeld => ?_)
 clear hK K
 refine zn 65 ?_
 refine zh 3 66 Tryz.func14 #[.agg #[.int .i64 a0_0, .slice Ao4_0 l0_1.length co4_0], .agg #[.int .i64 a0_0, .slice Ao8_0 l0_1.length co8_0]] (fun K hK => ?_)
 (refine (pU k7 a0_0 _ _ l0_1 a0_0 _ _ l0_1 true _ ?side1 ?side2 ?side3 ?side4 H7.out).mono ?_; (case side1 => exact zC (Kd.R_reads' HO4_0.out).2.2); (case side2 => exact (Kd.R_reads' HO4_0.out).2.1); (case side3 => exact zC (Kd.R_reads' HO8_0.out).2.2); (case side4 => exact (Kd.R_reads' HO8_0.out).2.1); clear HO8_0; rintro e w16 ⟨rfl, hb⟩; replace HO3_0 := bN HO3_0 hb; replace HO4_0 := bd HO4_0 hb; replace HO5_0 := bd HO5_0 hb; replace HO6_0 := bd HO6_0 hb; replace HO7_0 := cl HO7_0 hb; replace BK3 := bj BK3 hb; replace BK10 := bj BK10 hb; have HS16 := zM hb.size; replace HB := zM (ah HB.out hb); clear hb)
 refine ⟨_, rfl, ?_⟩
 refine hK.out _ _ ⟨(am BK10.out 0).trans rfl, (am BK10.out 1).trans rfl, (am BK3.out 0).trans rfl, (am BK3.out 1).trans rfl⟩ (fun hHeld => ?_)
 clear hK K
 refine zn 66 ?_
 refine zq 4 67 ?_
 refine zx ?_
 replace hc3_0 := zy BK3 0
 replace hf3_0 := ae BK3.out 0
 replace hc3_1 := zy BK3 1
 replace hf3_1 := ae BK3.out 1
 replace hc10_0 := zy BK10 0
 replace hf10_0 := ae BK10.out 0
 replace hc10_1 := zy BK10 1
 replace hf10_1 := ae BK10.out 1
 go_wp2_with (first
  | (have hst_ : Aside0 (Below w.heap.size w w16) := HB; clear hst_; go_at_call 11; refine (d8 k2 _ _ l1 l1 _ ?side1 ?side2 H2.out).mono ?_; (case side1 => exact zC (Kd.C_below HR1.out HB.out)); (case side2 => exact HC1.out); rintro e w17 ⟨v9_0, rfl, ho0, hb⟩; replace HO3_0 := bN HO3_0 hb; replace HO4_0 := bd HO4_0 hb; replace HO5_0 := bd HO5_0 hb; replace HO6_0 := bd HO6_0 hb; replace HO7_0 := cl HO7_0 hb; replace BK3 := bj BK3 hb; replace BK10 := bj BK10 hb; have HS17 := zM hb.size; have HO9_0 := uR HB.out (by first | exact ho0 | exact Kd.R_mono ho0 (fun _ _ => trivial) | exact Kd.R_mono ho0 (fun _ hk_ => hk_.1)); clear ho0; obtain ⟨Ao9_0, co9_0, eo9_0⟩ := Kd.R_slice HO9_0.out; subst eo9_0; replace HB := zM (ah HB.out hb); clear hb; replace hc3_0 := zy BK3 0; replace hf3_0 := ae BK3.out 0; replace hc3_1 := zy BK3 1; replace hf3_1 := ae BK3.out 1; replace hc10_0 := zy BK10 0; replace hf10_0 := ae BK10.out 0; replace hc10_1 := zy BK10 1; replace hf10_1 := ae BK10.out 1)
  | (have hst_ : Aside0 (Below w.heap.size w w17) := HB; clear hst_; go_at_call 15; refine (ee k8 _ _ l1 _ _ l1 true _ ?side1 ?side2 ?side3 ?side4 H8.out).mono ?_; (case side1 => exact zC (Kd.R_reads' HO5_0.out).2.2); (case side2 => exact (Kd.R_reads' HO5_0.out).2.1); (case side3 => exact zC (Kd.R_reads' HO9_0.out).2.2); (case side4 => exact (Kd.R_reads' HO9_0.out).2.1); clear HO9_0; rintro e w18 ⟨rfl, hb0⟩; have hb := hb0.below; clear hb0; replace HO3_0 := bN HO3_0 hb; replace HO4_0 := bd HO4_0 hb; replace HO5_0 := bd HO5_0 hb; replace HO6_0 := bd HO6_0 hb; replace HO7_0 := cl HO7_0 hb; replace BK3 := bj BK3 hb; replace BK10 := bj BK10 hb; have HS18 := zM hb.size; replace HB := zM (ah HB.out hb); clear hb; replace hc3_0 := zy BK3 0; replace hf3_0 := ae BK3.out 0; replace hc3_1 := zy BK3 1; replace hf3_1 := ae BK3.out 1; replace hc10_0 := zy BK10 0; replace hf10_0 := ae BK10.out 0; replace hc10_1 := zy BK10 1; replace hf10_1 := ae BK10.out 1)
  | (have hst_ : Aside0 (Below w.heap.size w w18) := HB; clear hst_; go_at_call 11; refine (d8 k3 _ _ l2 l2 _ ?side1 ?side2 H3.out).mono ?_; (case side1 => exact zC (Kd.C_below HR2.out HB.out)); (case side2 => exact HC2.out); rintro e w19 ⟨v10_0, rfl, ho0, hb⟩; replace HO3_0 := bN HO3_0 hb; replace HO4_0 := bd HO4_0 hb; replace HO5_0 := bd HO5_0 hb; replace HO6_0 := bd HO6_0 hb; replace HO7_0 := cl HO7_0 hb; replace BK3 := bj BK3 hb; replace BK10 := bj BK10 hb; have HS19 := zM hb.size; have HO10_0 := uR HB.out (by first | exact ho0 | exact Kd.R_mono ho0 (fun _ _ => trivial) | exact Kd.R_mono ho0 (fun _ hk_ => hk_.1)); clear ho0; obtain ⟨Ao10_0, co10_0, eo10_0⟩ := Kd.R_slice HO10_0.out; subst eo10_0; replace HB := zM (ah HB.out hb); clear hb; replace hc3_0 := zy BK3 0; replace hf3_0 := ae BK3.out 0; replace hc3_1 := zy BK3 1; replace hf3_1 := ae BK3.out 1; replace hc10_0 := zy BK10 0; replace hf10_0 := ae BK10.out 0; replace hc10_1 := zy BK10 1; replace hf10_1 := ae BK10.out 1)
  | (have hst_ : Aside0 (Below w.heap.size w w19) := HB; clear hst_; go_at_call 15; refine (ee k9 _ _ l2 _ _ l2 true _ ?side1 ?side2 ?side3 ?side4 H9.out).mono ?_; (case side1 => exact zC (Kd.R_reads' HO6_0.out).2.2); (case side2 => exact (Kd.R_reads' HO6_0.out).2.1); (case side3 => exact zC (Kd.R_reads' HO10_0.out).2.2); (case side4 => exact (Kd.R_reads' HO10_0.out).2.1); clear HO10_0; rintro e w20 ⟨rfl, hb0⟩; have hb := hb0.below; clear hb0; replace HO3_0 := bN HO3_0 hb; replace HO4_0 := bd HO4_0 hb; replace HO5_0 := bd HO5_0 hb; replace HO6_0 := bd HO6_0 hb; replace HO7_0 := cl HO7_0 hb; replace BK3 := bj BK3 hb; replace BK10 := bj BK10 hb; have HS20 := zM hb.size; replace HB := zM (ah HB.out hb); clear hb; replace hc3_0 := zy BK3 0; replace hf3_0 := ae BK3.out 0; replace hc3_1 := zy BK3 1; replace hf3_1 := ae BK3.out 1; replace hc10_0 := zy BK10 0; replace hf10_0 := ae BK10.out 0; replace hc10_1 := zy BK10 1; replace hf10_1 := ae BK10.out 1)
  | (have hst_ : Aside0 (Below w.heap.size w w20) := HB; clear hst_; go_at_call 16; refine (pS a0_0 _ _ l0_1 1 kk0 mk0_0 w w20 HB.out HO4_0.out H10.out).mono ?_; clear HO4_0; clear BK10 hc10_0 hf10_0 hc10_1 hf10_1; rintro e w21 ⟨rfl, hy0, hb2, hk⟩; replace HO3_0 := fU HO3_0 hk (fun k_ hk_ e_ => by have e2 : w6.heap.size ≤ k_ ∧ k_ < w7.heap.size := e_; have h2 : w5.heap.size ≤ k_ ∧ k_ < w6.heap.size := hk_; omega); replace HO5_0 := gW HO5_0 hk (fun k_ hk_ e_ => by have e2 : w6.heap.size ≤ k_ ∧ k_ < w7.heap.size := e_; have h2 : w9.heap.size ≤ k_ ∧ k_ < w10.heap.size := hk_; have := HS8.out; have := HS9.out; omega); replace HO6_0 := gW HO6_0 hk (fun k_ hk_ e_ => by have e2 : w6.heap.size ≤ k_ ∧ k_ < w7.heap.size := e_; have h2 : w10.heap.size ≤ k_ ∧ k_ < w11.heap.size := hk_; have := HS8.out; have := HS9.out; have := HS10.out; omega); replace HO7_0 := iO HO7_0 hk (fun k_ hk_ e_ => by have e2 : w6.heap.size ≤ k_ ∧ k_ < w7.heap.size := e_; have h2 : w11.heap.size ≤ k_ ∧ k_ < w12.heap.size := hk_; have := HS8.out; have := HS9.out; have := HS10.out; have := HS11.out; omega); replace BK3 := fV BK3 hk (fun e_ => by have e2 : w6.heap.size ≤ gb3 ∧ gb3 < w7.heap.size := e_; have := HG3.out; have := HL3.out; have := HS2.out; have := HS3.out; have := HS4.out; have := HS5.out; have := HS6.out; omega); clear hy0; have HS21 := zM hk.1; replace HB := zM hb2; clear hb2 hk; replace hc3_0 := zy BK3 0; replace hf3_0 := ae BK3.out 0; replace hc3_1 := zy BK3 1; replace hf3_1 := ae BK3.out 1)
  | (have hst_ : Aside0 (Below w.heap.size w w21) := HB; clear hst_; go_at_call 17; refine (jt k11 _ _ l1 kk0 kk1 mk1_0 w w21 HB.out HO5_0.out H11.out).mono ?_; clear HO5_0; rintro e w22 ⟨rfl, hy0, hb2, hk⟩; replace HO3_0 := fU HO3_0 hk (fun k_ hk_ e_ => by have e2 : w9.heap.size ≤ k_ ∧ k_ < w10.heap.size := e_; have h2 : w5.heap.size ≤ k_ ∧ k_ < w6.heap.size := hk_; have := HS7.out; have := HS8.out; have := HS9.out; omega); replace HO6_0 := gW HO6_0 hk (fun k_ hk_ e_ => by have e2 : w9.heap.size ≤ k_ ∧ k_ < w10.heap.size := e_; have h2 : w10.heap.size ≤ k_ ∧ k_ < w11.heap.size := hk_; omega); replace HO7_0 := iO HO7_0 hk (fun k_ hk_ e_ => by have e2 : w9.heap.size ≤ k_ ∧ k_ < w10.heap.size := e_; have h2 : w11.heap.size ≤ k_ ∧ k_ < w12.heap.size := hk_; have := HS11.out; omega); replace BK3 := fV BK3 hk (fun e_ => by have e2 : w9.heap.size ≤ gb3 ∧ gb3 < w10.heap.size := e_; have := HG3.out; have := HL3.out; have := HS2.out; have := HS3.out; have := HS4.out; have := HS5.out; have := HS6.out; have := HS7.out; have := HS8.out; have := HS9.out; omega); clear hy0; have HS22 := zM hk.1; replace HB := zM hb2; clear hb2 hk; replace hc3_0 := zy BK3 0; replace hf3_0 := ae BK3.out 0; replace hc3_1 := zy BK3 1; replace hf3_1 := ae BK3.out 1)
  | (have hst_ : Aside0 (Below w.heap.size w w22) := HB; clear hst_; go_at_call 17; refine (jt k12 _ _ l2 kk1 kk2 mk2_0 w w22 HB.out HO6_0.out H12.out).mono ?_; clear HO6_0; rintro e w23 ⟨rfl, hy0, hb2, hk⟩; replace HO3_0 := fU HO3_0 hk (fun k_ hk_ e_ => by have e2 : w10.heap.size ≤ k_ ∧ k_ < w11.heap.size := e_; have h2 : w5.heap.size ≤ k_ ∧ k_ < w6.heap.size := hk_; have := HS7.out; have := HS8.out; have := HS9.out; have := HS10.out; omega); replace HO7_0 := iO HO7_0 hk (fun k_ hk_ e_ => by have e2 : w10.heap.size ≤ k_ ∧ k_ < w11.heap.size := e_; have h2 : w11.heap.size ≤ k_ ∧ k_ < w12.heap.size := hk_; omega); replace BK3 := fV BK3 hk (fun e_ => by have e2 : w10.heap.size ≤ gb3 ∧ gb3 < w11.heap.size := e_; have := HG3.out; have := HL3.out; have := HS2.out; have := HS3.out; have := HS4.out; have := HS5.out; have := HS6.out; have := HS7.out; have := HS8.out; have := HS9.out; have := HS10.out; omega); clear hy0; have HS23 := zM hk.1; replace HB := zM hb2; clear hb2 hk; replace hc3_0 := zy BK3 0; replace hf3_0 := ae BK3.out 0; replace hc3_1 := zy BK3 1; replace hf3_1 := ae BK3.out 1)
  | (have hst_ : Aside0 (Below w.heap.size w w23) := HB; clear hst_; go_at_call 13; refine (jv k6 _ _ q0 _ _ q0 true _ ?side1 ?side2 ?side3 ?side4 H6.out).mono ?_; (case side1 => exact zC (Kd.S_reads' HO7_0.out).2.2); (case side2 => exact (Kd.S_reads' HO7_0.out).2.1); (case side3 => exact zC (Kd.V_reads' HO3_0.out).2.2); (case side4 => exact (Kd.V_reads' HO3_0.out).2.1); rintro e w24 ⟨rfl, hb0⟩; have hb := hb0.below; clear hb0; replace HO3_0 := bN HO3_0 hb; replace HO7_0 := cl HO7_0 hb; replace BK3 := bj BK3 hb; have HS24 := zM hb.size; replace HB := zM (ah HB.out hb); clear hb; replace hc3_0 := zy BK3 0; replace hf3_0 := ae BK3.out 0; replace hc3_1 := zy BK3 1; replace hf3_1 := ae BK3.out 1)
  | (have hst_ : Aside0 (Below w.heap.size w w24) := HB; clear hst_; go_at_call 18; refine (pQ _ _ q0 1 kk3 mk3_0 w w24 HB.out HO7_0.out H13.out).mono ?_; rintro e w25 ⟨rfl, hy0, hb2, hk⟩; replace HO3_0 := fU HO3_0 hk (fun k_ hk_ e_ => by have e2 : w11.heap.size ≤ k_ ∧ k_ < w12.heap.size := e_; have h2 : w5.heap.size ≤ k_ ∧ k_ < w6.heap.size := hk_; have := HS7.out; have := HS8.out; have := HS9.out; have := HS10.out; have := HS11.out; omega); replace BK3 := fV BK3 hk (fun e_ => by have e2 : w11.heap.size ≤ gb3 ∧ gb3 < w12.heap.size := e_; have := HG3.out; have := HL3.out; have := HS2.out; have := HS3.out; have := HS4.out; have := HS5.out; have := HS6.out; have := HS7.out; have := HS8.out; have := HS9.out; have := HS10.out; have := HS11.out; omega); replace HO7_0 := zM (Kd.S_mono (Kd.S_bound hy0) (fun k_ hk_ => (Or.imp id (fun h_ => ⟨h_, hk_.2.2.1⟩) hk_.1 : (w11.heap.size ≤ k_ ∧ k_ < w12.heap.size) ∨ (w24.heap.size ≤ k_ ∧ k_ < w25.heap.size)))); clear hy0; have hl7_0 := (Kd.S_reads' HO7_0.out).1; rw [hl7_0] at HO7_0; replace hl7_0 := zM hl7_0; have HS25 := zM hk.1; replace HB := zM hb2; clear hb2 hk; replace hc3_0 := zy BK3 0; replace hf3_0 := ae BK3.out 0; replace hc3_1 := zy BK3 1; replace hf3_1 := ae BK3.out 1)
  | (have hst_ : Aside0 (Below w.heap.size w w25) := HB; clear hst_; go_at_call 19; refine kw (args' := #[.slice Ao7_0 mk3_0.length co7_0, .int .i64 1]) (by rw [hl7_0.out]) ?_; refine (lM k14 _ _ mk3_0 1 kk3 _ ?side1 ?side2 H14.out).mono ?_; (case side1 => exact zC (Kd.S_reads' HO7_0.out).2.2); (case side2 => exact (Kd.S_reads' HO7_0.out).2.1); rintro e w26 ⟨rfl, hb0⟩; have hb := hb0.below; clear hb0; replace HO3_0 := bN HO3_0 hb; replace HO7_0 := cl HO7_0 hb; replace BK3 := bj BK3 hb; have HS26 := zM hb.size; replace HB := zM (ah HB.out hb); clear hb; replace hc3_0 := zy BK3 0; replace hf3_0 := ae BK3.out 0; replace hc3_1 := zy BK3 1; replace hf3_1 := ae BK3.out 1)
  | (have hst_ : Aside0 (Below w.heap.size w w26) := HB; clear hst_; go_at_call 10; refine (ik k1 a0_0 _ _ l0_1 a0_0 l0_1 _ ?side1 ?side2 H1.out).mono ?_; (case side1 => exact zC (Kd.C_below HR0_1.out HB.out)); (case side2 => exact HC0_1.out); clear BK3 hc3_0 hf3_0 hc3_1 hf3_1; rintro e w27 ⟨v11_0, rfl, ho0, hb⟩; replace HO3_0 := bN HO3_0 hb; replace HO7_0 := cl HO7_0 hb; have HS27 := zM hb.size; have HO11_0 := uR HB.out (by first | exact ho0 | exact Kd.R_mono ho0 (fun _ _ => trivial) | exact Kd.R_mono ho0 (fun _ hk_ => hk_.1)); clear ho0; obtain ⟨Ao11_0, co11_0, eo11_0⟩ := Kd.R_slice HO11_0.out; subst eo11_0; replace HB := zM (ah HB.out hb); clear hb)
  | (have hst_ : Aside0 (Below w.heap.size w w27) := HB; clear hst_; go_at_call 11; refine (d8 k2 _ _ l1 l1 _ ?side1 ?side2 H2.out).mono ?_; (case side1 => exact zC (Kd.C_below HR1.out HB.out)); (case side2 => exact HC1.out); rintro e w28 ⟨v12_0, rfl, ho0, hb⟩; replace HO3_0 := bN HO3_0 hb; replace HO7_0 := cl HO7_0 hb; replace HO11_0 := bd HO11_0 hb; have HS28 := zM hb.size; have HO12_0 := uR HB.out (by first | exact ho0 | exact Kd.R_mono ho0 (fun _ _ => trivial) | exact Kd.R_mono ho0 (fun _ hk_ => hk_.1)); clear ho0; obtain ⟨Ao12_0, co12_0, eo12_0⟩ := Kd.R_slice HO12_0.out; subst eo12_0; replace HB := zM (ah HB.out hb); clear hb)
  | (have hst_ : Aside0 (Below w.heap.size w w28) := HB; clear hst_; go_at_call 11; refine (d8 k3 _ _ l2 l2 _ ?side1 ?side2 H3.out).mono ?_; (case side1 => exact zC (Kd.C_below HR2.out HB.out)); (case side2 => exact HC2.out); rintro e w29 ⟨v13_0, rfl, ho0, hb⟩; replace HO3_0 := bN HO3_0 hb; replace HO7_0 := cl HO7_0 hb; replace HO11_0 := bd HO11_0 hb; replace HO12_0 := bd HO12_0 hb; have HS29 := zM hb.size; have HO13_0 := uR HB.out (by first | exact ho0 | exact Kd.R_mono ho0 (fun _ _ => trivial) | exact Kd.R_mono ho0 (fun _ hk_ => hk_.1)); clear ho0; obtain ⟨Ao13_0, co13_0, eo13_0⟩ := Kd.R_slice HO13_0.out; subst eo13_0; replace HB := zM (ah HB.out hb); clear hb)
  | (have hst_ : Aside0 (Below w.heap.size w w29) := HB; clear hst_; go_at_call 21; refine (l7 k5 a0_0 _ _ l0_1 _ _ l1 _ _ l2 q0 q1 _ ?side1 ?side2 ?side3 ?side4 ?side5 ?side6 H5.out).mono ?_; (case side1 => exact zC (Kd.R_reads' HO11_0.out).2.2); (case side2 => exact (Kd.R_reads' HO11_0.out).2.1); (case side3 => exact zC (Kd.R_reads' HO12_0.out).2.2); (case side4 => exact (Kd.R_reads' HO12_0.out).2.1); (case side5 => exact zC (Kd.R_reads' HO13_0.out).2.2); (case side6 => exact (Kd.R_reads' HO13_0.out).2.1); clear HO11_0; clear HO12_0; clear HO13_0; rintro e w30 ⟨v14_0, rfl, ho0, hb⟩; replace HO3_0 := bN HO3_0 hb; replace HO7_0 := cl HO7_0 hb; have HS30 := zM hb.size; have HO14_0 := uS HB.out (by first | exact ho0 | exact Kd.S_mono ho0 (fun _ _ => trivial) | exact Kd.S_mono ho0 (fun _ hk_ => hk_.1)); clear ho0; obtain ⟨Ao14_0, co14_0, eo14_0⟩ := Kd.S_slice HO14_0.out; subst eo14_0; replace HB := zM (ah HB.out hb); clear hb)
  | (have hst_ : Aside0 (Below w.heap.size w w30) := HB; clear hst_; go_at_call 13; refine (jv k6 _ _ q0 _ _ q0 true _ ?side1 ?side2 ?side3 ?side4 H6.out).mono ?_; (case side1 => exact zC (Kd.S_reads' HO14_0.out).2.2); (case side2 => exact (Kd.S_reads' HO14_0.out).2.1); (case side3 => exact zC (Kd.V_reads' HO3_0.out).2.2); (case side4 => exact (Kd.V_reads' HO3_0.out).2.1); clear HO3_0; clear HO14_0; rintro e w31 ⟨rfl, hb0⟩; have hb := hb0.below; clear hb0; replace HO7_0 := cl HO7_0 hb; have HS31 := zM hb.size; replace HB := zM (ah HB.out hb); clear hb)
  | (have hst_ : Aside0 (Below w.heap.size w w31) := HB; clear hst_; go_at_call 19; refine kw (args' := #[.slice Ao7_0 mk3_0.length co7_0, .int .i64 1]) (by rw [hl7_0.out]) ?_; refine (lM k14 _ _ mk3_0 1 kk3 _ ?side1 ?side2 H14.out).mono ?_; (case side1 => exact zC (Kd.S_reads' HO7_0.out).2.2); (case side2 => exact (Kd.S_reads' HO7_0.out).2.1); clear HO7_0; rintro e w32 ⟨rfl, hb0⟩; have hb := hb0.below; clear hb0; have HS32 := zM hb.size; replace HB := zM (ah HB.out hb); clear hb))
 go_ret
 exact ⟨rfl, HB.out⟩
end Go.Proofs.YtadjbmcfgjmhkaaGreat.P
