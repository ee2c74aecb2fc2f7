/- impl's spaceOf: the space of some states, in order, with the steps of which something is so; for every world. -/
import Derived.Test.YtadjbmcfgjmhkaaSlideSpaceG13
import Derived.Test.YtadjbmcfgjmhkaaSlideSpaceG15
import Derived.Test.YtadjbmcfgjmhkaaSlideSpaceG5
import Derived.Test.YtadjbmcfgjmhkaaSlideSpaceG6
import Derived.Test.YtadjbmcfgjmhkaaSlideSpaceG14
import Derived.Test.YtadjbmcfgjmhkaaSlideSpaceG12
import Derived.Test.YtadjbmcfgjmhkaaSlideSpaceG10
import Derived.Test.YtadjbmcfgjmhkaaSlideSpaceG7
namespace Go.Proofs.Ytadjbmcfgjmhkaa.P
open Go.RowKit Go.Proofs.YtadjbmcfgjmhkaaW.PrintWords Go.Proofs.YtadjbmcfgjmhkaaW.PrintLast Go.Proofs.YtadjbmcfgjmhkaaW.PrintMore
set_option linter.unusedVariables false
set_option linter.unusedSimpArgs false

/-- Function g, with what it is bound to, tells st of two of the lists; memory that was there at w stays. -/
def StepAt (g : Nat) (bs cb : Array Value) (st : List Int → List Int → Bool) (ls : List (List Int)) (w : World) : Prop :=
  ∀ (W : World) (x y : List Int) (A B : Option Addr) (c c' : Nat), x ∈ ls → y ∈ ls → Below w.heap.size w W → Kd.C (Kd.int .i64) W A x.length x → x.length ≤ c → Kd.C (Kd.int .i64) W B y.length y → y.length ≤ c' →
    Calls Try.prog g (bs ++ (#[.slice A x.length c, .slice B y.length c'] ++ cb)) W fun e w' => e = .returned (.bool (st x y)) ∧ Below W.heap.size W w'
def rowSteps (st : List Int → List Int → Bool) (a : List Int) (i : Nat) : Nat → List (List Int) → List S70
  | _, [] => []
  | k, b :: t => (if st a b = true then [⟨(i : Int), (k : Int)⟩] else []) ++ rowSteps st a i (k + 1) t
def allSteps (st : List Int → List Int → Bool) : Nat → List (List Int) → List S70
  | _, [] => []
  | i, a :: t => rowSteps st a i (i + 1) t ++ allSteps st (i + 1) t
theorem rowSteps_len (st : List Int → List Int → Bool) (a : List Int) (i : Nat) (t : List (List Int)) : ∀ k, (rowSteps st a i k t).length ≤ t.length := by
  induction t with
  | nil => intro k; exact Nat.le_refl _
  | cons b t ih =>
    intro k
    have := ih (k + 1)
    simp only [rowSteps, List.length_append, List.length_cons]
    split <;> simp only [List.length_nil, List.length_singleton] <;> omega
theorem allSteps_len (st : List Int → List Int → Bool) (t : List (List Int)) : ∀ i, (allSteps st i t).length ≤ t.length * t.length := by
  induction t with
  | nil => intro i; exact Nat.le_refl _
  | cons b t ih =>
    intro i
    have h1 := ih (i + 1)
    have h2 := rowSteps_len st b i t (i + 1)
    simp only [allSteps, List.length_append, List.length_cons]
    have : (t.length + 1) * (t.length + 1) = t.length * t.length + t.length + t.length + 1 := by rw [Nat.add_mul, Nat.mul_add]; omega
    omega
theorem row_C {w : World} {base : Nat} {ok : Nat → Prop} {g n cap m c : Nat} {A : Option Addr} {xs : List (List Int)} (h : Kd.S (Kd.slice 3 (Kd.int .i64)) 39 w base ok (.slice (some ⟨g, 0, none⟩) n cap) xs) (q : Nat) (hq : q < n) (hc : w.cell? ⟨g, q, none⟩ = some (.slice A m c)) :
    m = (xs.getD q []).length ∧ m ≤ c ∧ Kd.C (Kd.int .i64) w A (xs.getD q []).length (xs.getD q []) := by
  obtain ⟨cs, _, hM, hcc⟩ := Kd.S_get h ([] : List Int) (q : Int) (by omega) (by omega)
  obtain ⟨u, rfl, hR⟩ := hM
  have h2 := hcc 0 u rfl
  have e : (⟨g, 0, none⟩ : Addr).add ((q : Int).toNat * (Kd.slice 3 (Kd.int .i64)).sz + 0) = ⟨g, q, none⟩ := by
    show (⟨g, 0, none⟩ : Addr).add ((q : Int).toNat * 1 + 0) = _
    rw [Int.toNat_natCast, Nat.mul_one, Nat.add_zero, add_plain]
  rw [e, hc] at h2
  obtain rfl := Option.some.inj h2
  rw [Int.toNat_natCast] at hR
  obtain ⟨h3, h4, h5⟩ := Kd.R_reads' hR
  exact ⟨h3, h4, h5⟩
/-- The head of a row. -/
theorem row_head {w : World} {base : Nat} {ok : Nat → Prop} {g n cap : Nat} {xs : List (List Int)} (h : Kd.S (Kd.slice 3 (Kd.int .i64)) 39 w base ok (.slice (some ⟨g, 0, none⟩) n cap) xs) (q : Nat) (hq : q < n) :
    ∃ A c, w.cell? ⟨g, q, none⟩ = some (.slice A (xs.getD q []).length c) := by
  obtain ⟨cs, _, hM, hcc⟩ := Kd.S_get h ([] : List Int) (q : Int) (by omega) (by omega)
  obtain ⟨u, rfl, hR⟩ := hM
  have h2 := hcc 0 u rfl
  have e : (⟨g, 0, none⟩ : Addr).add ((q : Int).toNat * (Kd.slice 3 (Kd.int .i64)).sz + 0) = ⟨g, q, none⟩ := by
    show (⟨g, 0, none⟩ : Addr).add ((q : Int).toNat * 1 + 0) = _
    rw [Int.toNat_natCast, Nat.mul_one, Nat.add_zero, add_plain]
  rw [e] at h2
  rw [Int.toNat_natCast] at hR
  obtain ⟨A, c, rfl, _⟩ := Kd.R_reads hR
  exact ⟨A, c, h2⟩
set_option maxRecDepth 100000 in
set_option maxHeartbeats 4000000 in
theorem spaceOf_calls (g : Nat) (bs cb : Array Value) (eg : ∀ (args : Array Value) (w : World), (callFunc g args).run Try.prog w = .ok (.enter g args) w) (st : List Int → List Int → Bool) (u : Value) (ls : List (List Int)) (w ws : World) (hB : Below w.heap.size w ws)
    (ho : Kd.S (Kd.slice 3 (Kd.int .i64)) 39 ws w.heap.size (fun _ => True) u ls) (hlen : ls.length ≤ 1024) (hst : StepAt g bs cb st ls w) :
    Calls Try.prog 56 #[u, .func (.func g) bs cb] ws fun e w' => ∃ v0_ v1_ : Value, e = .returned (.agg #[v0_, v1_]) ∧ Kd.S (Kd.slice 3 (Kd.int .i64)) 39 w' w.heap.size (fun _ => True) v0_ (sortLL ls) ∧ Kd.R k70 70 w' w.heap.size (fun _ => True) v1_ (allSteps st 0 (sortLL ls)) ∧ Below w.heap.size w w' := by
  have hu := Try.underlying46
  obtain ⟨Au, cu, eu⟩ := Kd.S_slice ho
  subst eu
  have HS := zM ho
  have HB := zM hB
  have HL := zM hlen
  have HT := zM hst
  clear ho hB hlen hst
  go_enter Try.func56, Try.ntmps56
  go_wp2_with (first
    | ((with_reducible refine gate_dst (N := 4) rfl ?_); refine ze 4 #[.slice none 0 0, .slice none 0 0] 46 ?_; intro g4 hg w1 hbox hb; have BK4 := zM hbox; replace HS := zM (Kd.S_below HS.out hb); have HG4 := zM (show w.heap.size ≤ g4 by rw [hg]; exact below_size HB.out); replace HB := zM (below_step HB.out hb); clear hg hbox hb)
    | ((with_reducible refine gate_dst (N := 5) rfl ?_); refine ze 5 #[.slice none 0 0, .slice none 0 0] 46 ?_; intro g5 hg w2 hbox hb; have BK5 := zM hbox; replace HS := zM (Kd.S_below HS.out hb); have HG5 := zM (show w.heap.size ≤ g5 by rw [hg]; exact below_size HB.out); replace HB := zM (below_step HB.out hb); have NB := zM (show g4 ≠ g5 by rw [hg]; exact Nat.ne_of_lt (blk_lt BK4.out)); replace BK4 := zM (blk_below BK4.out hb); clear hg hbox hb; have hc0 := zy BK5 0; have hc1 := zy BK5 1; have hf0 := blk_frozen BK5.out 0; have hf1 := blk_frozen BK5.out 1)
    | (go_at_call 82; refine uBox BK5 HB HG5.out ?_; intro w3 BKn hk HBn; replace HS := zM (Kd.S_mono (ok' := fun _ => True) (Kd.S_kept (Kd.S_types HS.out BK5.out (by decide)) hk (fun k hk2 e => hk2.2 e)) (fun _ _ => trivial)); replace BK4 := zM (blk_kept BK4.out hk NB.out); clear BK5 HB hk; have BK5 := BKn; have HB := HBn; clear BKn HBn; refine (sortLists.calls (fun k => (True ∧ k ≠ g5) ∧ k ≠ g4) _ ls w _ HB.out (Kd.S_types (Kd.S_types HS.out BK5.out (by decide)) BK4.out (by decide)) (by have := HL.out; omega)).mono ?_; rintro e w4 ⟨rfl, ho, hb, hk⟩; clear HS; have HS := zM (Kd.S_mono (ok' := fun _ => True) ho (fun _ _ => trivial)); replace BK4 := zM (blk_kept BK4.out hk (fun h => h.2 rfl)); replace BK5 := zM (blk_kept BK5.out hk (fun h => h.1.2 rfl)); replace HB := zM hb; clear ho hb hk; replace hc0 := zy BK5 0; replace hc1 := zy BK5 1; replace hf0 := blk_frozen BK5.out 0; replace hf1 := blk_frozen BK5.out 1))
  have HTm := zM (fun x => (sortLL_mem ls x).1)
  have HTl := zM (sortLL_len ls)
  obtain ⟨T, hT⟩ : ∃ T, T = sortLL ls := ⟨_, rfl⟩
  rw [← hT] at HS HTm HTl
  have HTT := zM hT
  clear hT
  have HR0 := zM (Kd.R_nil k70 70 w4 w.heap.size (fun _ => True))
  have HSz := zM (show (allSteps st 0 T).length ≤ 1048576 by
    have h1 := allSteps_len st T 0
    have h2 := HL.out
    have h3 := HTl.out
    have h4 : T.length * T.length ≤ 1024 * 1024 := Nat.mul_le_mul (by omega) (by omega)
    omega)
  generalize hRR : allSteps st 0 T = RR at HSz
  have HRR := zM hRR
  clear hRR
  go_loopg [18] (ls.length + 1) (fun kq v18 w' => ∃ (i : Nat) (Q : List S70) (v1 : Value), v18 = .int .i64 (i : Int) ∧ Aside0 (i ≤ ls.length) ∧ Aside0 (kq = ls.length - i + 1) ∧ Aside0 (Q ++ allSteps st i (T.drop i) = RR) ∧ Aside0 (Kd.S (Kd.slice 3 (Kd.int .i64)) 39 w' w.heap.size (fun _ => True) (.slice Au ls.length cu) T) ∧ Aside0 (Kd.R k70 70 w' w.heap.size (fun _ => True) v1 Q) ∧ Aside0 (w'.heap[g5]? = some (.cells #[.slice Au ls.length cu, v1] 46 (0, 0))) ∧ Aside0 (w'.heap[g4]? = some (.cells #[.slice none 0 0, .slice none 0 0] 46 (0, 0))) ∧ Aside0 (Below w.heap.size w w'))
  case atStart => exact ⟨0, [], .slice none 0 0, by first | rfl | (simp; done), ⟨Nat.zero_le _⟩, ⟨by omega⟩, ⟨by rw [List.drop_zero, List.nil_append]; exact HRR.out⟩, HS, HR0, BK5, BK4, HB⟩
  case round =>
    clear HS HR0 BK5 BK4 HB hc0 hc1 hf0 hf1
    obtain ⟨i, Q, v1, rfl, HI, HK1, HQ, HS, HR, BK5, BK4, HB⟩ := hrel
    have hc0 := zy BK5 0
    have hc1 := zy BK5 1
    have hf0 := blk_frozen BK5.out 0
    have hf1 := blk_frozen BK5.out 1
    by_cases c1 : i < ls.length
    · obtain ⟨gS, capS, eS, gbS, glS, cS, hcS⟩ := Kd.S_form HS.out (by have := HTl.out; omega)
      injection eS with eA eN ec
      subst eA; subst ec
      clear eN
      have BKS := zM hcS
      obtain ⟨Ao, co, eo⟩ := Kd.R_slice HR.out
      subst eo
      obtain ⟨A0, c0, hx0⟩ := row_head HS.out i c1
      have HX0 := zM ((blk_cell BKS.out i).symm.trans hx0)
      have HCU := zM (show ls.length ≤ cu from (Kd.S_reads' HS.out).2.1)
      have HTi := zM (show T.getD i [] ∈ ls by
        have := HTl.out
        rw [List.getD_eq_getElem?_getD, List.getElem?_eq_getElem (by omega), Option.getD_some]
        exact HTm.out _ (List.getElem_mem _))
      have HQ2 := zM (show Q ++ rowSteps st (T.getD i []) i (i + 1) (T.drop (i + 1)) ++ allSteps st (i + 1) (T.drop (i + 1)) = RR by
        have := HTl.out
        have hi : i < T.length := by omega
        have h1 := HQ.out
        rw [List.drop_eq_getElem_cons hi] at h1
        rw [List.getD_eq_getElem?_getD, List.getElem?_eq_getElem hi, Option.getD_some, List.append_assoc]
        exact h1)
      generalize hTa : T.getD i [] = a at hx0 HX0 HTi HQ2
      have HTa := zM hTa
      clear hTa
      have HLN := zM HTl.out
      have q1 : (i : Int) < (ls.length : Int) := by omega
      have c1b : decide ((i : Int) < (ls.length : Int)) = true := decide_eq_true q1
      have c1c : decide (i < ls.length) = true := decide_eq_true c1
      have p1 : (0 : Int) ≤ (i : Int) := by omega
      have hw1 : (i : Int) + 1 ≤ 9223372036854775807 := by have := HL.out; omega
      obtain ⟨p, hp⟩ : ∃ p : Nat, p = i + 1 := ⟨_, rfl⟩
      have HPp := zM hp
      have hpi : (i : Int) + 1 = (p : Int) := by omega
      have hw2 : ((p : Int) ≤ (ls.length : Int)) = True := eq_true (by omega)
      have hw3 : (p ≤ ls.length) = True := eq_true (by omega)
      have hw4 : (p ≤ cu) = True := eq_true (by have := HCU.out; omega)
      have hw5 : (0 ≤ (p : Int)) = True := eq_true (by omega)
      obtain ⟨D, hD⟩ : ∃ D : Nat, ls.length - p = D := ⟨_, rfl⟩
      have HDD := zM hD
      have HPn := zM (show p ≤ ls.length by omega)
      have hpw : wrap64 (p : Int) = (p : Int) := wrap_nat (by omega) (by have := HL.out; omega)
      obtain ⟨B, hB⟩ : ∃ B : Option Addr, (if cu = p then some (⟨gS, 0, none⟩ : Addr) else some ⟨gS, p, none⟩) = B := ⟨_, rfl⟩
      clear hp hw1
      have HC1 := zM c1
      replace p1 := eq_true p1
      replace q1 := eq_true q1
      clear HQ hcS gbS glS c1
      go_wp2
      go_loopg [29] (D + 1) (fun kq v29 w' => ∃ (j : Nat) (Q2 : List S70) (v1 : Value), v29 = .int .i64 (j : Int) ∧ Aside0 (j ≤ D) ∧ Aside0 (kq = D - j + 1) ∧ Aside0 (Q2 ++ rowSteps st a i (p + j) (T.drop (p + j)) ++ allSteps st (i + 1) (T.drop (i + 1)) = RR) ∧ Aside0 (Kd.S (Kd.slice 3 (Kd.int .i64)) 39 w' w.heap.size (fun _ => True) (.slice (some ⟨gS, 0, none⟩) ls.length cu) T) ∧ Aside0 (Kd.R k70 70 w' w.heap.size (fun _ => True) v1 Q2) ∧ Aside0 (w'.heap[g5]? = some (.cells #[.slice (some ⟨gS, 0, none⟩) ls.length cu, v1] 46 (0, 0))) ∧ Aside0 (w'.heap[g4]? = some (.cells #[.slice none 0 0, .slice none 0 0] 46 (0, 0))) ∧ Aside0 (w'.heap[gS]? = some (.cells cS 39 (0, 0))) ∧ Aside0 (Below w.heap.size w w'))
      case atStart => exact ⟨0, Q, _, by first | rfl | (simp; done), ⟨Nat.zero_le _⟩, ⟨by omega⟩, ⟨by rw [Nat.add_zero, HPp.out]; exact HQ2.out⟩, HS, HR, BK5, BK4, BKS, HB⟩
      case round =>
        clear HS HR BK5 BK4 BKS HB hc0 hc1 hf0 hf1 hx0 HQ2
        obtain ⟨j, Q2, v1, rfl, HJ, HK2, HQ2, HS, HR, BK5, BK4, BKS, HB⟩ := hrel
        obtain ⟨Ao2, co2, eo2⟩ := Kd.R_slice HR.out
        subst eo2
        have hc0 := zy BK5 0
        have hc1 := zy BK5 1
        have hf0 := blk_frozen BK5.out 0
        have hf1 := blk_frozen BK5.out 1
        by_cases c2 : j < D
        · have hBv : B = some ⟨gS, p, none⟩ := by
            have := HDD.out
            have := HCU.out
            rw [← hB, if_neg (by omega)]
          clear hB
          subst hBv
          obtain ⟨q, hq⟩ : ∃ q : Nat, p + j = q := ⟨_, rfl⟩
          have hqn : q < ls.length := by have := HDD.out; omega
          obtain ⟨A1, c1', hx1⟩ := row_head HS.out q hqn
          have HX1 := zM hx1
          obtain ⟨la1, la2, la3⟩ := row_C HS.out i HC1.out ((blk_cell BKS.out i).trans HX0.out)
          obtain ⟨lb1, lb2, lb3⟩ := row_C HS.out q hqn hx1
          rw [HTa.out] at la3
          have HTb := zM (show T.getD q [] ∈ ls by
            have := HTl.out
            rw [List.getD_eq_getElem?_getD, List.getElem?_eq_getElem (by omega), Option.getD_some]
            exact HTm.out _ (List.getElem_mem _))
          have HQ3 := zM (show Q2 ++ (if st a (T.getD q []) = true then [(⟨(i : Int), (q : Int)⟩ : S70)] else []) ++ rowSteps st a i (p + (j + 1)) (T.drop (p + (j + 1))) ++ allSteps st (i + 1) (T.drop (i + 1)) = RR by
            have := HTl.out
            have hi : q < T.length := by omega
            have h1 := HQ2.out
            rw [hq, List.drop_eq_getElem_cons hi] at h1
            simp only [rowSteps] at h1
            rw [List.getD_eq_getElem?_getD, List.getElem?_eq_getElem hi, Option.getD_some, show p + (j + 1) = q + 1 by omega, List.append_assoc Q2]
            exact h1)
          generalize T.getD q [] = b at hx1 HX1 lb1 lb2 lb3 HTb HQ3
          have HCa := zM la3
          have HCb := zM lb3
          have HLa := zM la2
          have HLb := zM lb2
          have HQl := zM (show Q2.length < 1048577 by
            have h1 := congrArg List.length HQ3.out
            simp only [List.length_append] at h1
            have := HSz.out
            omega)
          have q2 : (j : Int) < (D : Int) := by omega
          have c2b : decide ((j : Int) < (D : Int)) = true := decide_eq_true q2
          have c2c : decide (j < D) = true := decide_eq_true c2
          have p2 : (0 : Int) ≤ (j : Int) := by omega
          have hw6 : (j : Int) + 1 ≤ 9223372036854775807 := by have := HL.out; omega
          have hqi : (p : Int) + (j : Int) = (q : Int) := by omega
          have hqw : wrap64 (q : Int) = (q : Int) := wrap_nat (by omega) (by have := HL.out; omega)
          have HJ2 := zM c2
          have hf2 := blk_frozen BKS.out
          replace p2 := eq_true p2
          replace q2 := eq_true q2
          have NS := zM (show gS ≠ g5 by
            intro e
            have h := BKS.out
            rw [e, BK5.out] at h
            injection h with h
            injection h with _ h
            exact absurd h (by decide))
          clear la1 la2 la3 lb1 lb2 lb3 c2 hqn HQ2 hf2
          cases hst : st a b with
          | true =>
            rw [hst, if_pos rfl] at HQ3
            have HSt := zM hst
            clear hst
            obtain ⟨Q5, hQ5⟩ : ∃ Q5, Q5 = Q2 ++ [(⟨(i : Int), (q : Int)⟩ : S70)] := ⟨_, rfl⟩
            rw [← hQ5] at HQ3
            have HQ5 := zM hQ5
            clear hQ5
            go_wp2_with (first
              | (go_at_fn g; refine (HT.out _ a b A0 A1 c0 c1' HTi.out HTb.out HB.out HCa.out HLa.out HCb.out HLb.out).mono ?_; rw [HSt.out]; rintro e w6 ⟨rfl, hb⟩; replace HS := zM (Kd.S_below HS.out hb); replace HR := zM (Kd.R_below HR.out hb); replace BK5 := zM (blk_below BK5.out hb); replace BK4 := zM (blk_below BK4.out hb); replace BKS := zM (blk_below BKS.out hb); replace HB := zM (below_step HB.out hb); clear hb; replace hc0 := zy BK5 0; replace hc1 := zy BK5 1; replace hf0 := blk_frozen BK5.out 0; replace hf1 := blk_frozen BK5.out 1)
              | ((with_reducible refine gate_builtin (b := .append) (xs := #[.tmp 39, .tmp 46]) rfl ?_); at_builtin; refine Kd.R_append k70 (w0 := w) w.heap.size rfl (.tmp 39) (.tmp 46) 22 70 (.agg #[(.int .i64 0), (.int .i64 0)]) 16 rfl Try.underlying22 info70 rfl (by decide) (by omega) (.slice Ao2 Q2.length co2) Q2 (⟨(i : Int), (q : Int)⟩ : S70) [.int .i64 (i : Int), .int .i64 (q : Int)] (fun _ => True) (fun _ => False) rfl rfl ?aP (fun _ hk => hk.elim) ?aF ?aO ?aB ?aS ?aL ?_; (case aP => exact k70_mkM _ _ _ (⟨(i : Int), (q : Int)⟩ : S70)); (case aB => exact zB); (case aF => exact (fun _ _ => trivial)); (case aO => exact (zR HR.out)); (case aS => exact (below_size zB)); (case aL => have := HQl.out; omega); intro v9 w9 ho hb hg hat; rw [← HQ5.out] at ho; obtain ⟨A9, c9, e9⟩ := Kd.R_slice ho; subst e9; replace HS := zM (Kd.S_over' HS.out (Kd.R_typed HR.out) (by decide) hg); replace BK5 := zM (blk_grown (zK BK5.out) hg (Kd.R_ne HR.out BK5.out (by decide))); replace BK4 := zM (blk_grown (zK BK4.out) hg (Kd.R_ne HR.out BK4.out (by decide))); replace BKS := zM (blk_grown (zK BKS.out) hg (Kd.R_ne HR.out BKS.out (by decide))); replace HB := zM hb; replace HR := zM ho; clear ho hb hg hat; replace hc0 := zy BK5 0; replace hc1 := zy BK5 1; replace hf0 := blk_frozen BK5.out 0; replace hf1 := blk_frozen BK5.out 1))
            go_roundg (D - j)
            case measure => have := HK2.out; have := HJ2.out; omega
            case rel => exact ⟨j + 1, Q5, _, by first | rfl | (simp; done) | go_num, ⟨by have := HJ2.out; omega⟩, ⟨by have := HJ2.out; omega⟩, HQ3, ⟨Kd.S_mono (Kd.S_far (p := ⟨g5, 1, none⟩) (Kd.S_types HS.out BK5.out (by decide)) (fun _ hk => hk.2) _) (fun _ _ => trivial)⟩, ⟨Kd.R_mono (Kd.R_far (p := ⟨g5, 1, none⟩) (Kd.R_types HR.out BK5.out (by decide)) (fun _ hk => hk.2) _) (fun _ _ => trivial)⟩, ⟨blk_put (cs := #[.slice (some ⟨gS, 0, none⟩) ls.length cu, .slice Ao2 Q2.length co2]) BK5.out 1 _ rfl⟩, ⟨blk_far BK4.out NB.out _⟩, ⟨blk_far BKS.out NS.out _⟩, ⟨below_set HB.out HG5.out⟩⟩
          | false =>
            rw [hst, if_neg (by decide), List.append_nil] at HQ3
            have HSt := zM hst
            clear hst
            go_wp2_with (go_at_fn g; refine (HT.out _ a b A0 A1 c0 c1' HTi.out HTb.out HB.out HCa.out HLa.out HCb.out HLb.out).mono ?_; rw [HSt.out]; rintro e w6 ⟨rfl, hb⟩; replace HS := zM (Kd.S_below HS.out hb); replace HR := zM (Kd.R_below HR.out hb); replace BK5 := zM (blk_below BK5.out hb); replace BK4 := zM (blk_below BK4.out hb); replace BKS := zM (blk_below BKS.out hb); replace HB := zM (below_step HB.out hb); clear hb; replace hc0 := zy BK5 0; replace hc1 := zy BK5 1; replace hf0 := blk_frozen BK5.out 0; replace hf1 := blk_frozen BK5.out 1)
            go_roundg (D - j)
            case measure => have := HK2.out; have := HJ2.out; omega
            case rel => exact ⟨j + 1, Q2, _, by first | rfl | (simp; done) | go_num, ⟨by have := HJ2.out; omega⟩, ⟨by have := HJ2.out; omega⟩, HQ3, HS, HR, BK5, BK4, BKS, HB⟩
        · have hj : j = D := by have := HJ.out; omega
          have c2b : decide ((j : Int) < (D : Int)) = false := decide_eq_false (by omega)
          have c2c : decide (j < D) = false := decide_eq_false c2
          have HQ4 := zM (show Q2 ++ allSteps st (i + 1) (T.drop (i + 1)) = RR by
            have h1 := HQ2.out
            have h2 := HTl.out
            have h3 := HDD.out
            have h4 := HPn.out
            rw [List.drop_eq_nil_of_le (show T.length ≤ p + j by omega)] at h1
            simpa [rowSteps] using h1)
          clear c2 hj HQ2
          have hwi : (i : Int) + 1 ≤ 9223372036854775807 := by have := HC1.out; have := HL.out; omega
          go_wp2
          go_roundg (ls.length - i)
          case measure => have := HK1.out; have := HC1.out; omega
          case rel => exact ⟨i + 1, Q2, _, by first | rfl | exact congrArg (fun z : Nat => Value.int .i64 (z : Int)) HPp.out | (simp; done) | go_num, ⟨by have := HC1.out; omega⟩, ⟨by have := HC1.out; omega⟩, HQ4, HS, HR, BK5, BK4, HB⟩
    · have hi : i = ls.length := by have := HI.out; omega
      have c1b : decide ((i : Int) < (ls.length : Int)) = false := decide_eq_false (by omega)
      have c1c : decide (i < ls.length) = false := decide_eq_false c1
      have HF := zM (show Q = RR by
        have h1 := HQ.out
        have h2 := HTl.out
        rw [List.drop_eq_nil_of_le (by omega)] at h1
        simpa [allSteps] using h1)
      have hd0 := zy BK4 0
      have hd1 := zy BK4 1
      have he0 := blk_frozen BK4.out 0
      have he1 := blk_frozen BK4.out 1
      obtain ⟨Ao, co, eo⟩ := Kd.R_slice HR.out
      subst eo
      clear c1 hi HQ
      go_wp2
      (try simp only [Exit.inBlock, Exit.then])
      refine bodyPost_ret (results_cell_row rfl _ _ g4 46 #[.slice Au ls.length cu, .slice Ao Q.length co] (0, 0) _ rfl (blk_put (cs := #[.slice Au ls.length cu, .slice none 0 0]) (blk_put (cs := #[.slice none 0 0, .slice none 0 0]) BK4.out 0 _ rfl) 1 _ rfl) hu rfl (by kernel_rfl)) rfl ?_
      refine ⟨_, _, rfl, ?_, ?_, below_set (below_set HB.out HG4.out) HG4.out⟩
      · rw [← HTT.out]
        exact Kd.S_mono (Kd.S_far (p := ⟨g4, 1, none⟩) (Kd.S_far (p := ⟨g4, 0, none⟩) (Kd.S_types HS.out BK4.out (by decide)) (fun _ hk => hk.2) _) (fun _ hk => hk.2) _) (fun _ _ => trivial)
      · rw [← HTT.out, HRR.out, ← HF.out]
        exact Kd.R_mono (Kd.R_far (p := ⟨g4, 1, none⟩) (Kd.R_far (p := ⟨g4, 0, none⟩) (Kd.R_types HR.out BK4.out (by decide)) (fun _ hk => hk.2) _) (fun _ hk => hk.2) _) (fun _ _ => trivial)
end Go.Proofs.Ytadjbmcfgjmhkaa.P
namespace Go.Proofs.Ytadjbmcfgjmhkaa.P
open Go.RowKit Go.Proofs.YtadjbmcfgjmhkaaW.PrintWords Go.Proofs.YtadjbmcfgjmhkaaW.PrintLast Go.Proofs.YtadjbmcfgjmhkaaW.PrintMore
attribute [local go_sem] max2_int min2_int max_two min_two max_three min_three max_four min_four   -- for this text's walks alone
set_option linter.unusedVariables false
set_option linter.unusedSimpArgs false

/-! ### impl_moves: function 84 -/
def impl_moves.f (k : Nat) (l0 : List Int) (l1 : List Int) : Option (Int × Int) := (impl_bagOf.f k l0).bind fun t352 => ((impl_bagOf.f k l1).bind fun t353 => (some (Go.bits .andNot .u64 t352 t353, Go.bits .andNot .u64 t353 t352)))
set_option maxHeartbeats 8000000 in
set_option maxRecDepth 100000 in
theorem impl_moves.calls (k : Nat) (A0 : Option Addr) (c0 : Nat) (l0 : List Int) (A1 : Option Addr) (c1 : Nat) (l1 : List Int) (r1 : Int) (r2 : Int) (w : World) (hr0 : Kd.C (Kd.int .i64) w A0 l0.length l0) (hc0 : l0.length ≤ c0) (hr1 : Kd.C (Kd.int .i64) w A1 l1.length l1) (hc1 : l1.length ≤ c1) (h : impl_moves.f k l0 l1 = some (r1, r2)) :
 Calls Try.prog 84 #[.slice A0 l0.length c0, .slice A1 l1.length c1] w fun e w' => e = .returned (.tuple #[.int .u64 r1, .int .u64 r2]) ∧ Drawn0 w w' := by
 have HR0 := Aside0.mk hr0
 have HC0 := Aside0.mk hc0
 clear hr0 hc0
 have HR1 := Aside0.mk hr1
 have HC1 := Aside0.mk hc1
 clear hr1 hc1
 have H : ((impl_bagOf.f k l0).bind fun t352 => ((impl_bagOf.f k l1).bind fun t353 => (some (Go.bits .andNot .u64 t352 t353, Go.bits .andNot .u64 t353 t352)))) = some (r1, r2) := h
 clear h
 replace H := Option.bind_eq_some_iff.mp H
 obtain ⟨t352, A30, H⟩ := H
 replace H : ((impl_bagOf.f k l1).bind fun t353 => (some (Go.bits .andNot .u64 t352 t353, Go.bits .andNot .u64 t353 t352))) = some (r1, r2) := H
 have A3 := Aside0.mk A30
 clear A30
 replace H := Option.bind_eq_some_iff.mp H
 obtain ⟨t353, A40, H⟩ := H
 replace H : (some (Go.bits .andNot .u64 t352 t353, Go.bits .andNot .u64 t353 t352)) = some (r1, r2) := H
 have A4 := Aside0.mk A40
 clear A40
 simp only [Option.some.injEq, Prod.mk.injEq] at H
 obtain ⟨rfl, rfl⟩ := H
 go_enter Try.func84, Try.ntmps84
 go_wp2_with (first | ((with_reducible refine gate_callee (f := 80) rfl ?_); refine zc 9 Try.func80 #[.slice A0 l0.length c0] ?_; (with_reducible refine (impl_bagOf.calls k _ _ l0 t352 _ ?side1 ?side2 A3.out).mono ?_); (case side1 => exact zC HR0.out); (case side2 => exact HC0.out); rintro e w' ⟨rfl, ⟨nd, rfl⟩⟩; refine ⟨_, rfl, ?_⟩) | ((with_reducible refine gate_callee (f := 80) rfl ?_); refine zc 11 Try.func80 #[.slice A1 l1.length c1] ?_; (with_reducible refine (impl_bagOf.calls k _ _ l1 t353 _ ?side1 ?side2 A4.out).mono ?_); (case side1 => exact zC HR1.out); (case side2 => exact HC1.out); rintro e w' ⟨rfl, ⟨nd, rfl⟩⟩; refine ⟨_, rfl, ?_⟩))
 go_ret2
 exact ⟨by first | rfl | (simp; done) | (simp [*]; done), by repeat (first | exact Drawn0.refl _ | apply Drawn0.step)⟩

/-! ### impl_isAdding: function 57 -/
def impl_isAdding.f (k : Nat) (l0 : List Int) (l1 : List Int) : Option (Bool) := (impl_moves.f k l0 l1).bind fun bt358 => ((impl_bag_size.f bt358.1).bind fun t360 => ((impl_bag_size.f bt358.2).bind fun t361 => (some ((wrap64 (t360 + t361)) == 1))))
set_option maxHeartbeats 8000000 in
set_option maxRecDepth 100000 in
theorem impl_isAdding.calls (k : Nat) (A0 : Option Addr) (c0 : Nat) (l0 : List Int) (A1 : Option Addr) (c1 : Nat) (l1 : List Int) (r : Bool) (w : World) (hr0 : Kd.C (Kd.int .i64) w A0 l0.length l0) (hc0 : l0.length ≤ c0) (hr1 : Kd.C (Kd.int .i64) w A1 l1.length l1) (hc1 : l1.length ≤ c1) (h : impl_isAdding.f k l0 l1 = some r) :
 Calls Try.prog 57 #[.slice A0 l0.length c0, .slice A1 l1.length c1] w fun e w' => e = .returned (.bool r) ∧ Below w.heap.size w w' := by
 have HR0 := Aside0.mk hr0
 have HC0 := Aside0.mk hc0
 clear hr0 hc0
 have HR1 := Aside0.mk hr1
 have HC1 := Aside0.mk hc1
 clear hr1 hc1
 have HB := zM (Below.refl w.heap.size w)
 have H : ((impl_moves.f k l0 l1).bind fun bt358 => ((impl_bag_size.f bt358.1).bind fun t360 => ((impl_bag_size.f bt358.2).bind fun t361 => (some ((wrap64 (t360 + t361)) == 1))))) = some r := h
 clear h
 replace H := Option.bind_eq_some_iff.mp H
 obtain ⟨⟨t358, t359⟩, A30, H⟩ := H
 replace H : ((impl_bag_size.f t358).bind fun t360 => ((impl_bag_size.f t359).bind fun t361 => (some ((wrap64 (t360 + t361)) == 1)))) = some r := H
 have A3 := Aside0.mk A30
 clear A30
 replace H := Option.bind_eq_some_iff.mp H
 obtain ⟨t360, A40, H⟩ := H
 have A4 := Aside0.mk A40
 clear A40
 replace H := Option.bind_eq_some_iff.mp H
 obtain ⟨t361, A50, H⟩ := H
 have A5 := Aside0.mk A50
 clear A50
 obtain rfl := Option.some.inj H
 go_enter Try.func57, Try.ntmps57
 go_wp2_with (first | ((with_reducible refine gate_callee (f := 84) rfl ?_); refine zc 10 Try.func84 #[.slice A0 l0.length c0, .slice A1 l1.length c1] ?_; (with_reducible refine (impl_moves.calls k _ _ l0 _ _ l1 t358 t359 _ ?side1 ?side2 ?side3 ?side4 A3.out).mono ?_); (case side1 => exact zC HR0.out); (case side2 => exact HC0.out); (case side3 => exact zC HR1.out); (case side4 => exact HC1.out); rintro e w' ⟨rfl, ⟨nd, rfl⟩⟩; refine ⟨_, rfl, ?_⟩) | ((with_reducible refine gate_callee (f := 70) rfl ?_); refine zc 14 Try.func70 #[.int .u64 t358] ?_; (with_reducible refine (impl_bag_size.calls t358 t360 _ A4.out).mono ?_); rintro e w6 ⟨rfl, hb⟩; refine ⟨_, rfl, ?_⟩; replace HB := zM (below_step zB hb); (try clear hb); (try clear hb2); (try clear hk); (try clear hi)) | ((with_reducible refine gate_callee (f := 70) rfl ?_); refine zc 16 Try.func70 #[.int .u64 t359] ?_; (with_reducible refine (impl_bag_size.calls t359 t361 _ A5.out).mono ?_); rintro e w7 ⟨rfl, hb⟩; refine ⟨_, rfl, ?_⟩; replace HB := zM (below_step zB hb); (try clear hb); (try clear hb2); (try clear hk); (try clear hi)))
 go_ret
 exact ⟨by first | rfl | (simp [errW_none, errW_some] <;> rfl) | (simp [*, errW_none, errW_some] <;> rfl), zB⟩

end Go.Proofs.Ytadjbmcfgjmhkaa.P
namespace Go.Proofs.Ytadjbmcfgjmhkaa.P
open Go.RowKit Go.Proofs.YtadjbmcfgjmhkaaW.PrintWords Go.Proofs.YtadjbmcfgjmhkaaW.PrintLast Go.Proofs.YtadjbmcfgjmhkaaW.PrintMore
attribute [local go_sem] max2_int min2_int max_two min_two max_three min_three max_four min_four   -- for this text's walks alone
set_option linter.unusedVariables false
set_option linter.unusedSimpArgs false

/-! ### impl_Graph_isSlide: function 60 -/
/-- What is held in a region may grow. -/
theorem any_moreG16 {P : Program} {md : Region.Mode} {ops : Array Oper} {Q : Exit → Act → World → Prop} {S1 S2 : World → Prop} {fuel : Nat} {l : Array Bool} {a : Act} {w : World} (hsub : ∀ w, S2 w → S1 w) (h2 : S2 w) (H : wpAnyLast P md ops Q S2 [] fuel l a w) : wpAnyLast P md ops Q S1 [] fuel l a w := by
  induction fuel generalizing l a w with
  | zero => exact H
  | succ fuel ih => exact ⟨H.1, fun i hi => wpOp_mono (fun a' w' h => ⟨fun hd _ => hsub _ (h.1 hd h2), ih (h.1 (by simp) h2) h.2⟩) (H.2 i hi)⟩
def impl_Graph_isSlide.f (k : Nat) (a0_0 : Int) (l0_1 : List (S70)) (l1 : List Int) (l2 : List Int) : Option (Bool) := (impl_moves.f k l1 l2).bind fun bt363 => ((impl_bag_size.f bt363.1).bind fun t365 => (if t365 = 1 then ((impl_bag_size.f bt363.2).bind fun t366 => (if t366 = 1 then ((impl_bag_list.f k bt363.1).bind fun t367 => (if 0 < (t367.length : Int) then ((impl_bag_list.f k bt363.2).bind fun t371 => (if 0 < (t371.length : Int) then ((impl_Graph_has.f k a0_0 l0_1 (rd t367 0) (rd t371 0)).bind fun t375 => (some t375)) else (none))) else (none))) else (some false))) else (some false)))
def impl_Graph_isSlide.T2 : Bool × List (List Nat × List Nat) := (true, [([], []), ([0], [0]), ([1], [1]), ([2, 1], [2]), ([3], [3]), ([4, 3, 3], [3, 4]), ([5, 3], [3, 5]), ([3, 6], [3, 6]), ([7, 5], [7]), ([8], [8]), ([8], [8]), ([10, 8, 8], [8, 10]), ([11, 8], [8, 11]), ([12, 8], [8, 12]), ([8], [8]), ([14, 11, 8], [8, 14]), ([15, 8], [8, 15]), ([16, 8], [8, 16]), ([9, 13, 17, 15, 8], [8, 9, 13, 17]), ([8, 18], [8, 18]), ([19, 18, 0, 1, 2, 3, 4, 5, 6, 7, 8, 9, 10, 11, 12, 13, 14, 15, 16, 17, 18, 19], [19])])
def impl_Graph_isSlide.B2 : List Nat := [0, 1, 3, 7, 15, 31, 63, 127, 255, 511, 511, 1535, 3583, 7679, 511, 19967, 52735, 118271, 262143, 524287, 1048575]
theorem impl_Graph_isSlide.tab2 : rtab .any (opsOf Try.f60 2) = impl_Graph_isSlide.T2 := by kernel_rfl
theorem impl_Graph_isSlide.bits2 : waitsOk impl_Graph_isSlide.T2.2 impl_Graph_isSlide.B2 = true := by kernel_rfl
set_option maxHeartbeats 8000000 in
set_option maxRecDepth 100000 in
theorem impl_Graph_isSlide.calls (k : Nat) (a0_0 : Int) (A0_1 : Option Addr) (c0_1 : Nat) (l0_1 : List (S70)) (A1 : Option Addr) (c1 : Nat) (l1 : List Int) (A2 : Option Addr) (c2 : Nat) (l2 : List Int) (r : Bool) (w : World) (hr0_1 : Kd.C k70 w A0_1 l0_1.length l0_1) (hc0_1 : l0_1.length ≤ c0_1) (hr1 : Kd.C (Kd.int .i64) w A1 l1.length l1) (hc1 : l1.length ≤ c1) (hr2 : Kd.C (Kd.int .i64) w A2 l2.length l2) (hc2 : l2.length ≤ c2) (h : impl_Graph_isSlide.f k a0_0 l0_1 l1 l2 = some r) :
 Calls Try.prog 60 #[.agg #[.int .i64 a0_0, .slice A0_1 l0_1.length c0_1], .slice A1 l1.length c1, .slice A2 l2.length c2] w fun e w' => e = .returned (.bool r) ∧ Below w.heap.size w w' := by
 have hu28 := Try.underlying28
 have HR0_1 := Aside0.mk hr0_1
 have HC0_1 := Aside0.mk hc0_1
 clear hr0_1 hc0_1
 have HR1 := Aside0.mk hr1
 have HC1 := Aside0.mk hc1
 clear hr1 hc1
 have HR2 := Aside0.mk hr2
 have HC2 := Aside0.mk hc2
 clear hr2 hc2
 have HB := zM (Below.refl w.heap.size w)
 have H : ((impl_moves.f k l1 l2).bind fun bt363 => ((impl_bag_size.f bt363.1).bind fun t365 => (if t365 = 1 then ((impl_bag_size.f bt363.2).bind fun t366 => (if t366 = 1 then ((impl_bag_list.f k bt363.1).bind fun t367 => (if 0 < (t367.length : Int) then ((impl_bag_list.f k bt363.2).bind fun t371 => (if 0 < (t371.length : Int) then ((impl_Graph_has.f k a0_0 l0_1 (rd t367 0) (rd t371 0)).bind fun t375 => (some t375)) else (none))) else (none))) else (some false))) else (some false)))) = some r := h
 clear h
 replace H := Option.bind_eq_some_iff.mp H
 obtain ⟨⟨t363, t364⟩, A40, H⟩ := H
 replace H : ((impl_bag_size.f t363).bind fun t365 => (if t365 = 1 then ((impl_bag_size.f t364).bind fun t366 => (if t366 = 1 then ((impl_bag_list.f k t363).bind fun t367 => (if 0 < (t367.length : Int) then ((impl_bag_list.f k t364).bind fun t371 => (if 0 < (t371.length : Int) then ((impl_Graph_has.f k a0_0 l0_1 (rd t367 0) (rd t371 0)).bind fun t375 => (some t375)) else (none))) else (none))) else (some false))) else (some false))) = some r := H
 have A4 := Aside0.mk A40
 clear A40
 replace H := Option.bind_eq_some_iff.mp H
 obtain ⟨t365, A50, H⟩ := H
 have A5 := Aside0.mk A50
 clear A50
 by_cases c6 : t365 = 1
 · rw [if_pos c6] at H
   have c6b0 : (t365 == 1) = true := beq_iff_eq.mpr c6
   have c6b1 : (t365 != 1) = false := bne_eq_false_iff_eq.mpr c6
   clear c6
   replace H := Option.bind_eq_some_iff.mp H
   obtain ⟨t366, A70, H⟩ := H
   have A7 := Aside0.mk A70
   clear A70
   by_cases c8 : t366 = 1
   · rw [if_pos c8] at H
     have c8b0 : (t366 == 1) = true := beq_iff_eq.mpr c8
     have c8b1 : (t366 != 1) = false := bne_eq_false_iff_eq.mpr c8
     clear c8
     replace H := Option.bind_eq_some_iff.mp H
     obtain ⟨t367, A90, H⟩ := H
     have A9 := Aside0.mk A90
     clear A90
     by_cases c10 : 0 < (t367.length : Int)
     · rw [if_pos c10] at H
       have c10b0 := decide_eq_true c10
       have c10b1 : decide (0 < t367.length) = true := decide_eq_true (by omega)
       clear c10
       replace H := Option.bind_eq_some_iff.mp H
       obtain ⟨t371, A110, H⟩ := H
       have A11 := Aside0.mk A110
       clear A110
       by_cases c12 : 0 < (t371.length : Int)
       · rw [if_pos c12] at H
         have c12b0 := decide_eq_true c12
         have c12b1 : decide (0 < t371.length) = true := decide_eq_true (by omega)
         clear c12
         replace H := Option.bind_eq_some_iff.mp H
         obtain ⟨t375, A130, H⟩ := H
         have A13 := Aside0.mk A130
         clear A130
         obtain rfl := Option.some.inj H
         go_enter Try.func60, Try.ntmps60
         try go_wp2_with (first | ((with_reducible refine gate_dst (N := 3) rfl ?_); refine zb (w := w) 3 #[.int .i64 a0_0, .slice A0_1 l0_1.length c0_1] 28 zB ?_; clear HB; intro gb362 w14 HB BK362 GW362; have GE362 := GW362) | ((with_reducible refine gate_callee (f := 84) rfl ?_); refine zc 12 Try.func84 #[.slice A1 l1.length c1, .slice A2 l2.length c2] ?_; (with_reducible refine (impl_moves.calls k _ _ l1 _ _ l2 t363 t364 _ ?side1 ?side2 ?side3 ?side4 A4.out).mono ?_); (case side1 => exact zC (Kd.C_below HR1.out HB.out)); (case side2 => exact HC1.out); (case side3 => exact zC (Kd.C_below HR2.out HB.out)); (case side4 => exact HC2.out); rintro e w' ⟨rfl, ⟨nd, rfl⟩⟩; refine ⟨_, rfl, ?_⟩))
         (try (rw [drewN_self w14]; generalize hq_ : World.drewN w14 _ = w14; have n0_ : Aside0 (w14.heap[gb362]? = some (.cells #[.int .i64 a0_0, .slice A0_1 l0_1.length c0_1] 28 (0, 0))) := ⟨by rw [← hq_]; exact (zK BK362.out)⟩; have n1_ : Aside0 (Below w.heap.size w w14) := ⟨by rw [← hq_]; exact zB⟩; clear BK362 HB hq_; have BK362 := n0_; have HB := n1_; clear n0_ n1_))
         replace BK362 := zM (blk_drew BK362.out)
         replace HB := zM (below_drew1 HB.out)
         refine zs (n := 21) (fun w' => w'.cell? ⟨gb362, 0, none⟩ = some (.int .i64 a0_0) ∧ w'.cell? ⟨gb362, 1, none⟩ = some (.slice A0_1 l0_1.length c0_1)) ⟨(blk_cell BK362.out 0).trans rfl, (blk_cell BK362.out 1).trans rfl⟩ (fun hHeld => ?_); refine with_tabW impl_Graph_isSlide.tab2 impl_Graph_isSlide.bits2 (fun HT_ HW_ => ?_)
         generalize w14.drew = w15 at BK362 HB hHeld ⊢
         refine zp HT_ 0 15 ?_
         refine zg HT_ 1 16 Try.func70 #[.int .u64 t363] (fun K hK => ?_)
         with_reducible refine (impl_bag_size.calls t363 t365 _ A5.out).mono ?_
         rintro e w16 ⟨rfl, hb⟩
         refine ⟨_, rfl, ?_⟩
         replace BK362 := zM (blk_below (g := gb362) (o := .cells #[.int .i64 a0_0, .slice A0_1 l0_1.length c0_1] 28 (0, 0)) (zK BK362.out) hb)
         replace HB := zM (below_step zB hb)
         (try clear hb)
         (try clear hb2)
         (try clear hk)
         (try clear hi)
         refine hK.out _ _ ⟨(blk_cell BK362.out 0).trans rfl, (blk_cell BK362.out 1).trans rfl⟩ (fun hHeld => ?_)
         clear hK K
         refine zn 16 ?_
         refine zp HT_ 2 17 ?_
         refine zp HT_ 3 18 ?_
         refine zp HT_ 4 19 ?_
         refine zg HT_ 5 20 Try.func70 #[.int .u64 t364] (fun K hK => ?_)
         with_reducible refine (impl_bag_size.calls t364 t366 _ A7.out).mono ?_
         rintro e w17 ⟨rfl, hb⟩
         refine ⟨_, rfl, ?_⟩
         replace BK362 := zM (blk_below (g := gb362) (o := .cells #[.int .i64 a0_0, .slice A0_1 l0_1.length c0_1] 28 (0, 0)) (zK BK362.out) hb)
         replace HB := zM (below_step zB hb)
         (try clear hb)
         (try clear hb2)
         (try clear hk)
         (try clear hi)
         refine hK.out _ _ ⟨(blk_cell BK362.out 0).trans rfl, (blk_cell BK362.out 1).trans rfl⟩ (fun hHeld => ?_)
         clear hK K
         refine zn 20 ?_
         refine zp HT_ 6 21 ?_
         refine zp HT_ 7 22 ?_
         refine zp HT_ 8 23 ?_
         refine zp HT_ 10 25 ?_
         refine zp HT_ 14 29 ?_
         refine zt HT_ HW_ 9 24 hHeld ?_ (hy := by rintro w' ⟨s0, s1⟩; go_simp; with_reducible rfl)
         refine zg HT_ 11 26 Try.func86 #[.int .u64 t363] (fun K hK => ?_)
         with_reducible refine (impl_bag_list.calls k t363 t367 _ A9.out).mono ?_
         rintro e w18 ⟨v368, rfl, ho0, hb⟩
         refine ⟨_, rfl, ?_⟩
         have HO369 := zM (Kd.R_lower ho0 (below_size zB))
         replace BK362 := zM (blk_below (g := gb362) (o := .cells #[.int .i64 a0_0, .slice A0_1 l0_1.length c0_1] 28 (0, 0)) (zK BK362.out) hb)
         replace HB := zM (below_step zB hb)
         (try clear hb)
         (try clear hb2)
         (try clear hk)
         (try clear hi)
         (try clear ho0)
         obtain ⟨Ao19, co19, eo19⟩ := Kd.R_slice HO369.out
         (first | subst eo19 | (injection eo19 with f1_ f2_ f3_; have f4_ := f1_.symm; have f5_ := f3_.symm; clear f1_ f2_ f3_; subst f4_; subst f5_))
         have p370 : 0 ≤ (0 : Int) := (by omega)
         have q370 : 0 < (t367.length : Int) := of_decide_eq_true zA
         obtain ⟨ad370, e370, hx370_0⟩ := Kd.at_int (Kd.R_reads' HO369.out).2.2 0 p370 q370
         cases e370
         have qi370 : (0 < t367.length) = True := eq_true (by omega)
         (try rw [show ((0 : Int)).toNat = 0 from rfl] at hx370_0)
         (try rw [Addr.add_zero'] at hx370_0)
         replace p370 := eq_true p370
         replace q370 := eq_true q370
         refine hK.out _ _ ⟨(blk_cell BK362.out 0).trans rfl, (blk_cell BK362.out 1).trans rfl⟩ (fun hHeld => ?_)
         have hMore_ := hHeld
         clear hHeld
         refine any_moreG16 (S2 := fun w' => w'.cell? ⟨gb362, 0, none⟩ = some (.int .i64 a0_0) ∧ w'.cell? ⟨gb362, 1, none⟩ = some (.slice A0_1 l0_1.length c0_1) ∧ w'.cell? ad370 = some (.int .i64 (rd t367 0))) (fun _ h => ⟨h.1, h.2.1⟩) ⟨hMore_.1, hMore_.2, hx370_0⟩ ?_
         have hHeld := (⟨hMore_.1, hMore_.2, hx370_0⟩ : _ ∧ _ ∧ _)
         clear hMore_
         clear hK K
         refine zn 26 ?_
         refine zp HT_ 12 27 ?_
         refine zt HT_ HW_ 13 28 hHeld ?_ (hy := by rintro w' ⟨s0, s1, s2⟩; go_simp; with_reducible rfl)
         refine zg HT_ 15 30 Try.func86 #[.int .u64 t364] (fun K hK => ?_)
         with_reducible refine (impl_bag_list.calls k t364 t371 _ A11.out).mono ?_
         rintro e w20 ⟨v372, rfl, ho0, hb⟩
         have HS2_ := (hb.cell (World.block_lt_of_cell? _ _ (hHeld.2.2))).trans (hHeld.2.2)
         refine ⟨_, rfl, ?_⟩
         have HO373 := zM (Kd.R_lower (Kd.R_new' ho0 (Kd.R_lt (zR HO369.out))) (below_size zB))
         replace HO369 := zM (Kd.R_elder' (zR HO369.out) (Kd.R_base ho0) hb)
         replace BK362 := zM (blk_below (g := gb362) (o := .cells #[.int .i64 a0_0, .slice A0_1 l0_1.length c0_1] 28 (0, 0)) (zK BK362.out) hb)
         replace HB := zM (below_step zB hb)
         (try clear hb)
         (try clear hb2)
         (try clear hk)
         (try clear hi)
         (try clear ho0)
         obtain ⟨Ao21, co21, eo21⟩ := Kd.R_slice HO373.out
         (first | subst eo21 | (injection eo21 with f1_ f2_ f3_; have f4_ := f1_.symm; have f5_ := f3_.symm; clear f1_ f2_ f3_; subst f4_; subst f5_))
         have p374 : 0 ≤ (0 : Int) := (by omega)
         have q374 : 0 < (t371.length : Int) := of_decide_eq_true zA
         obtain ⟨ad374, e374, hx374_0⟩ := Kd.at_int (Kd.R_reads' HO373.out).2.2 0 p374 q374
         cases e374
         have qi374 : (0 < t371.length) = True := eq_true (by omega)
         (try rw [show ((0 : Int)).toNat = 0 from rfl] at hx374_0)
         (try rw [Addr.add_zero'] at hx374_0)
         replace p374 := eq_true p374
         replace q374 := eq_true q374
         refine hK.out _ _ ⟨(blk_cell BK362.out 0).trans rfl, (blk_cell BK362.out 1).trans rfl, HS2_⟩ (fun hHeld => ?_)
         have hMore_ := hHeld
         clear hHeld
         refine any_moreG16 (S2 := fun w' => w'.cell? ⟨gb362, 0, none⟩ = some (.int .i64 a0_0) ∧ w'.cell? ⟨gb362, 1, none⟩ = some (.slice A0_1 l0_1.length c0_1) ∧ w'.cell? ad370 = some (.int .i64 (rd t367 0)) ∧ w'.cell? ad374 = some (.int .i64 (rd t371 0))) (fun _ h => ⟨h.1, h.2.1, h.2.2.1⟩) ⟨hMore_.1, hMore_.2.1, hMore_.2.2, hx374_0⟩ ?_
         have hHeld := (⟨hMore_.1, hMore_.2.1, hMore_.2.2, hx374_0⟩ : _ ∧ _ ∧ _ ∧ _)
         clear hMore_
         clear hK K
         refine zn 30 ?_
         refine zp HT_ 16 31 ?_
         refine zt HT_ HW_ 17 32 hHeld ?_ (hy := by rintro w' ⟨s0, s1, s2, s3⟩; go_simp; with_reducible rfl)
         refine zg HT_ 18 33 Try.func85 #[.agg #[.int .i64 a0_0, .slice A0_1 l0_1.length c0_1], .int .i64 (rd t367 0), .int .i64 (rd t371 0)] (fun K hK => ?_)
         with_reducible refine (impl_Graph_has.calls k a0_0 _ _ l0_1 (rd t367 0) (rd t371 0) t375 _ ?side1 ?side2 A13.out).mono ?_
         (case side1 => exact zC (Kd.C_below HR0_1.out HB.out))
         (case side2 => exact HC0_1.out)
         rintro e w22 ⟨rfl, hb⟩
         have HS2_ := (hb.cell (World.block_lt_of_cell? _ _ (hHeld.2.2.1))).trans (hHeld.2.2.1)
         have HS3_ := (hb.cell (World.block_lt_of_cell? _ _ (hHeld.2.2.2))).trans (hHeld.2.2.2)
         refine ⟨_, rfl, ?_⟩
         replace HO369 := zM (Kd.R_below (zR HO369.out) hb)
         replace HO373 := zM (Kd.R_below (zR HO373.out) hb)
         replace BK362 := zM (blk_below (g := gb362) (o := .cells #[.int .i64 a0_0, .slice A0_1 l0_1.length c0_1] 28 (0, 0)) (zK BK362.out) hb)
         replace HB := zM (below_step zB hb)
         (try clear hb)
         (try clear hb2)
         (try clear hk)
         (try clear hi)
         refine hK.out _ _ ⟨(blk_cell BK362.out 0).trans rfl, (blk_cell BK362.out 1).trans rfl, HS2_, HS3_⟩ (fun hHeld => ?_)
         clear hK K
         refine zn 33 ?_
         refine zp HT_ 19 34 ?_
         refine zp HT_ 20 6 ?_
         refine zo HT_ ?_
         try go_wp2
         go_ret
         exact ⟨by first | rfl | (simp [errW_none, errW_some] <;> rfl) | (simp [*, errW_none, errW_some] <;> rfl), zB⟩
       · rw [if_neg c12] at H
         exact absurd H (by simp)
     · rw [if_neg c10] at H
       exact absurd H (by simp)
   · rw [if_neg c8] at H
     have c8b0 : (t366 == 1) = false := beq_eq_false_iff_ne.mpr c8
     have c8b1 : (t366 != 1) = true := bne_iff_ne.mpr c8
     obtain rfl := Option.some.inj H
     go_enter Try.func60, Try.ntmps60
     try go_wp2_with (first | ((with_reducible refine gate_dst (N := 3) rfl ?_); refine zb (w := w) 3 #[.int .i64 a0_0, .slice A0_1 l0_1.length c0_1] 28 zB ?_; clear HB; intro gb362 w23 HB BK362 GW362; have GE362 := GW362) | ((with_reducible refine gate_callee (f := 84) rfl ?_); refine zc 12 Try.func84 #[.slice A1 l1.length c1, .slice A2 l2.length c2] ?_; (with_reducible refine (impl_moves.calls k _ _ l1 _ _ l2 t363 t364 _ ?side1 ?side2 ?side3 ?side4 A4.out).mono ?_); (case side1 => exact zC (Kd.C_below HR1.out HB.out)); (case side2 => exact HC1.out); (case side3 => exact zC (Kd.C_below HR2.out HB.out)); (case side4 => exact HC2.out); rintro e w' ⟨rfl, ⟨nd, rfl⟩⟩; refine ⟨_, rfl, ?_⟩))
     (try (rw [drewN_self w23]; generalize hq_ : World.drewN w23 _ = w23; have n0_ : Aside0 (w23.heap[gb362]? = some (.cells #[.int .i64 a0_0, .slice A0_1 l0_1.length c0_1] 28 (0, 0))) := ⟨by rw [← hq_]; exact (zK BK362.out)⟩; have n1_ : Aside0 (Below w.heap.size w w23) := ⟨by rw [← hq_]; exact zB⟩; clear BK362 HB hq_; have BK362 := n0_; have HB := n1_; clear n0_ n1_))
     replace BK362 := zM (blk_drew BK362.out)
     replace HB := zM (below_drew1 HB.out)
     refine zs (n := 21) (fun w' => True) trivial (fun hHeld => ?_); refine with_tabW impl_Graph_isSlide.tab2 impl_Graph_isSlide.bits2 (fun HT_ HW_ => ?_)
     generalize w23.drew = w24 at BK362 HB hHeld ⊢
     refine zp HT_ 0 15 ?_
     refine zg HT_ 1 16 Try.func70 #[.int .u64 t363] (fun K hK => ?_)
     with_reducible refine (impl_bag_size.calls t363 t365 _ A5.out).mono ?_
     rintro e w25 ⟨rfl, hb⟩
     refine ⟨_, rfl, ?_⟩
     replace BK362 := zM (blk_below (g := gb362) (o := .cells #[.int .i64 a0_0, .slice A0_1 l0_1.length c0_1] 28 (0, 0)) (zK BK362.out) hb)
     replace HB := zM (below_step zB hb)
     (try clear hb)
     (try clear hb2)
     (try clear hk)
     (try clear hi)
     refine hK.out _ _ trivial (fun hHeld => ?_)
     clear hK K
     refine zn 16 ?_
     refine zp HT_ 2 17 ?_
     refine zp HT_ 3 18 ?_
     refine zp HT_ 4 19 ?_
     refine zg HT_ 5 20 Try.func70 #[.int .u64 t364] (fun K hK => ?_)
     with_reducible refine (impl_bag_size.calls t364 t366 _ A7.out).mono ?_
     rintro e w26 ⟨rfl, hb⟩
     refine ⟨_, rfl, ?_⟩
     replace BK362 := zM (blk_below (g := gb362) (o := .cells #[.int .i64 a0_0, .slice A0_1 l0_1.length c0_1] 28 (0, 0)) (zK BK362.out) hb)
     replace HB := zM (below_step zB hb)
     (try clear hb)
     (try clear hb2)
     (try clear hk)
     (try clear hi)
     refine hK.out _ _ trivial (fun hHeld => ?_)
     clear hK K
     refine zn 20 ?_
     refine zp HT_ 6 21 ?_
     refine zp HT_ 7 22 ?_
     refine zp HT_ 8 23 ?_
     refine zu HT_ 9 24 ?_
     refine zu HT_ 10 25 ?_
     refine zu HT_ 11 26 ?_
     refine zu HT_ 12 27 ?_
     refine zu HT_ 13 28 ?_
     refine zu HT_ 14 29 ?_
     refine zu HT_ 15 30 ?_
     refine zu HT_ 16 31 ?_
     refine zu HT_ 17 32 ?_
     refine zu HT_ 18 33 ?_
     refine zp HT_ 19 34 ?_
     refine zp HT_ 20 6 ?_
     refine zo HT_ ?_
     try go_wp2
     go_ret
     exact ⟨by first | rfl | (simp [errW_none, errW_some] <;> rfl) | (simp [*, errW_none, errW_some] <;> rfl), zB⟩
 · rw [if_neg c6] at H
   have c6b0 : (t365 == 1) = false := beq_eq_false_iff_ne.mpr c6
   have c6b1 : (t365 != 1) = true := bne_iff_ne.mpr c6
   obtain rfl := Option.some.inj H
   go_enter Try.func60, Try.ntmps60
   try go_wp2_with (first | ((with_reducible refine gate_dst (N := 3) rfl ?_); refine zb (w := w) 3 #[.int .i64 a0_0, .slice A0_1 l0_1.length c0_1] 28 zB ?_; clear HB; intro gb362 w27 HB BK362 GW362; have GE362 := GW362) | ((with_reducible refine gate_callee (f := 84) rfl ?_); refine zc 12 Try.func84 #[.slice A1 l1.length c1, .slice A2 l2.length c2] ?_; (with_reducible refine (impl_moves.calls k _ _ l1 _ _ l2 t363 t364 _ ?side1 ?side2 ?side3 ?side4 A4.out).mono ?_); (case side1 => exact zC (Kd.C_below HR1.out HB.out)); (case side2 => exact HC1.out); (case side3 => exact zC (Kd.C_below HR2.out HB.out)); (case side4 => exact HC2.out); rintro e w' ⟨rfl, ⟨nd, rfl⟩⟩; refine ⟨_, rfl, ?_⟩))
   (try (rw [drewN_self w27]; generalize hq_ : World.drewN w27 _ = w27; have n0_ : Aside0 (w27.heap[gb362]? = some (.cells #[.int .i64 a0_0, .slice A0_1 l0_1.length c0_1] 28 (0, 0))) := ⟨by rw [← hq_]; exact (zK BK362.out)⟩; have n1_ : Aside0 (Below w.heap.size w w27) := ⟨by rw [← hq_]; exact zB⟩; clear BK362 HB hq_; have BK362 := n0_; have HB := n1_; clear n0_ n1_))
   replace BK362 := zM (blk_drew BK362.out)
   replace HB := zM (below_drew1 HB.out)
   refine zs (n := 21) (fun w' => True) trivial (fun hHeld => ?_); refine with_tabW impl_Graph_isSlide.tab2 impl_Graph_isSlide.bits2 (fun HT_ HW_ => ?_)
   generalize w27.drew = w28 at BK362 HB hHeld ⊢
   refine zp HT_ 0 15 ?_
   refine zg HT_ 1 16 Try.func70 #[.int .u64 t363] (fun K hK => ?_)
   with_reducible refine (impl_bag_size.calls t363 t365 _ A5.out).mono ?_
   rintro e w29 ⟨rfl, hb⟩
   refine ⟨_, rfl, ?_⟩
   replace BK362 := zM (blk_below (g := gb362) (o := .cells #[.int .i64 a0_0, .slice A0_1 l0_1.length c0_1] 28 (0, 0)) (zK BK362.out) hb)
   replace HB := zM (below_step zB hb)
   (try clear hb)
   (try clear hb2)
   (try clear hk)
   (try clear hi)
   refine hK.out _ _ trivial (fun hHeld => ?_)
   clear hK K
   refine zn 16 ?_
   refine zp HT_ 2 17 ?_
   refine zp HT_ 3 18 ?_
   refine zu HT_ 4 19 ?_
   refine zu HT_ 5 20 ?_
   refine zu HT_ 6 21 ?_
   refine zp HT_ 7 22 ?_
   refine zp HT_ 8 23 ?_
   refine zu HT_ 9 24 ?_
   refine zu HT_ 10 25 ?_
   refine zu HT_ 11 26 ?_
   refine zu HT_ 12 27 ?_
   refine zu HT_ 13 28 ?_
   refine zu HT_ 14 29 ?_
   refine zu HT_ 15 30 ?_
   refine zu HT_ 16 31 ?_
   refine zu HT_ 17 32 ?_
   refine zu HT_ 18 33 ?_
   refine zp HT_ 19 34 ?_
   refine zp HT_ 20 6 ?_
   refine zo HT_ ?_
   try go_wp2
   go_ret
   exact ⟨by first | rfl | (simp [errW_none, errW_some] <;> rfl) | (simp [*, errW_none, errW_some] <;> rfl), zB⟩

end Go.Proofs.Ytadjbmcfgjmhkaa.P
namespace Go.Proofs.Ytadjbmcfgjmhkaa.P
open Go.RowKit Go.Proofs.YtadjbmcfgjmhkaaW.PrintWords Go.Proofs.YtadjbmcfgjmhkaaW.PrintLast Go.Proofs.YtadjbmcfgjmhkaaW.PrintMore
attribute [local go_sem] max2_int min2_int max_two min_two max_three min_three max_four min_four   -- for this text's walks alone
set_option linter.unusedVariables false
set_option linter.unusedSimpArgs false

/-! ### impl_IndependentSets: function 16 -/
def impl_IndependentSets.f (k : Nat) (a0_0 : Int) (l0_1 : List (S70)) (a1 : Int) : Option ((List (List Int)) × Bool) := (impl_IsGraph.f k a0_0 l0_1).bind fun t377 => (if t377 = true then ((impl_between.f a1 0 8).bind fun t378 => (if t378 = true then ((impl_Graph_free.f a0_0 l0_1 a1 a1).bind fun t379 => (some (t379, true))) else (some (([] : List (List Int)), false)))) else (some (([] : List (List Int)), false)))
set_option maxHeartbeats 8000000 in
set_option maxRecDepth 100000 in
theorem impl_IndependentSets.calls (k : Nat) (a0_0 : Int) (A0_1 : Option Addr) (c0_1 : Nat) (l0_1 : List (S70)) (a1 : Int) (r1 : List (List Int)) (r2 : Bool) (w : World) (hr0_1 : Kd.C k70 w A0_1 l0_1.length l0_1) (hc0_1 : l0_1.length ≤ c0_1) (h : impl_IndependentSets.f k a0_0 l0_1 a1 = some (r1, r2)) :
 Calls Try.prog 16 #[.agg #[.int .i64 a0_0, .slice A0_1 l0_1.length c0_1], .int .i64 a1] w fun e w' => ∃ v0_ : Value, e = .returned (.tuple #[v0_, .bool r2]) ∧ Kd.S (Kd.slice 3 (Kd.int .i64)) 39 w' w.heap.size (fun _ => True) v0_ r1 ∧ Below w.heap.size w w' := by
 have hu28 := Try.underlying28
 have HR0_1 := Aside0.mk hr0_1
 have HC0_1 := Aside0.mk hc0_1
 clear hr0_1 hc0_1
 have HB := zM (Below.refl w.heap.size w)
 have H : ((impl_IsGraph.f k a0_0 l0_1).bind fun t377 => (if t377 = true then ((impl_between.f a1 0 8).bind fun t378 => (if t378 = true then ((impl_Graph_free.f a0_0 l0_1 a1 a1).bind fun t379 => (some (t379, true))) else (some (([] : List (List Int)), false)))) else (some (([] : List (List Int)), false)))) = some (r1, r2) := h
 clear h
 replace H := Option.bind_eq_some_iff.mp H
 obtain ⟨t377, A30, H⟩ := H
 replace H : (if t377 = true then ((impl_between.f a1 0 8).bind fun t378 => (if t378 = true then ((impl_Graph_free.f a0_0 l0_1 a1 a1).bind fun t379 => (some (t379, true))) else (some (([] : List (List Int)), false)))) else (some (([] : List (List Int)), false))) = some (r1, r2) := H
 have A3 := Aside0.mk A30
 clear A30
 by_cases c4 : t377 = true
 · subst c4
   have H1 : ((impl_between.f a1 0 8).bind fun t378 => (if t378 = true then ((impl_Graph_free.f a0_0 l0_1 a1 a1).bind fun t379 => (some (t379, true))) else (some (([] : List (List Int)), false)))) = some (r1, r2) := by rw [if_pos rfl] at H; exact H
   clear H
   have H := H1
   clear H1
   replace H := Option.bind_eq_some_iff.mp H
   obtain ⟨t378, A50, H⟩ := H
   replace H : (if t378 = true then ((impl_Graph_free.f a0_0 l0_1 a1 a1).bind fun t379 => (some (t379, true))) else (some (([] : List (List Int)), false))) = some (r1, r2) := H
   have A5 := Aside0.mk A50
   clear A50
   by_cases c6 : t378 = true
   · subst c6
     have H1 : ((impl_Graph_free.f a0_0 l0_1 a1 a1).bind fun t379 => (some (t379, true))) = some (r1, r2) := by rw [if_pos rfl] at H; exact H
     clear H
     have H := H1
     clear H1
     replace H := Option.bind_eq_some_iff.mp H
     obtain ⟨t379, A70, H⟩ := H
     replace H : (some (t379, true)) = some (r1, r2) := H
     have A7 := Aside0.mk A70
     clear A70
     simp only [Option.some.injEq, Prod.mk.injEq] at H
     obtain ⟨rfl, rfl⟩ := H
     go_enter Try.func16, Try.ntmps16
     go_wp2_with (first | ((with_reducible refine gate_dst (N := 2) rfl ?_); refine zb (w := w) 2 #[.int .i64 a0_0, .slice A0_1 l0_1.length c0_1] 28 zB ?_; clear HB; intro gb376 w8 HB BK376 GW376; have GE376 := GW376; have hcz9_0 := zy BK376 0; have hcz9_1 := zy BK376 1; have hfz9_0 := blk_frozen BK376.out 0; have hfz9_1 := blk_frozen BK376.out 1) | ((with_reducible refine gate_callee (f := 42) rfl ?_); refine zc 7 Try.func42 #[.agg #[.int .i64 a0_0, .slice A0_1 l0_1.length c0_1]] ?_; (with_reducible refine (impl_IsGraph.calls k a0_0 _ _ l0_1 true _ ?side1 ?side2 A3.out).mono ?_); (case side1 => exact zC (Kd.C_below HR0_1.out HB.out)); (case side2 => exact HC0_1.out); rintro e w10 ⟨rfl, hb⟩; refine ⟨_, rfl, ?_⟩; replace BK376 := zM (blk_below (g := gb376) (o := .cells #[.int .i64 a0_0, .slice A0_1 l0_1.length c0_1] 28 (0, 0)) (zK BK376.out) hb); replace HB := zM (below_step zB hb); (try clear hb); (try clear hb2); (try clear hk); (try clear hi)) | (go_at_call 46; (with_reducible refine (impl_between.calls a1 0 8 true _ A5.out).mono ?_); rintro e w' ⟨rfl, ⟨nd, rfl⟩⟩; have hcz11_0 := zy BK376 0; have hcz11_1 := zy BK376 1; have hfz11_0 := blk_frozen BK376.out 0; have hfz11_1 := blk_frozen BK376.out 1) | ((with_reducible refine gate_callee (f := 43) rfl ?_); refine zc 17 Try.func43 #[.agg #[.int .i64 a0_0, .slice A0_1 l0_1.length c0_1], .int .i64 a1, .int .i64 a1] ?_; (with_reducible refine (impl_Graph_free.calls a0_0 _ _ l0_1 a1 a1 t379 _ ?side1 ?side2 A7.out).mono ?_); (case side1 => exact zC (Kd.C_below HR0_1.out zB)); (case side2 => exact HC0_1.out); rintro e w12 ⟨v380, rfl, ho0, hb⟩; refine ⟨_, rfl, ?_⟩; have HO381 := zM (Kd.S_lower ho0 (below_size zB)); replace BK376 := zM (blk_below (g := gb376) (o := .cells #[.int .i64 a0_0, .slice A0_1 l0_1.length c0_1] 28 (0, 0)) (zK BK376.out) hb); replace HB := zM (below_step zB hb); (try clear hb); (try clear hb2); (try clear hk); (try clear hi); (try clear ho0)))
     go_ret2
     exact ⟨_, by first | rfl | (simp [errW_none, errW_some] <;> rfl) | (simp [*, errW_none, errW_some] <;> rfl), by (with_reducible repeat (first | apply Kd.S_alloc | apply Kd.S_drewN | apply Kd.S_drew)); exact HO381.out, zB⟩
   · replace c6 := Bool.eq_false_iff.mpr c6
     subst c6
     have H1 : (some (([] : List (List Int)), false)) = some (r1, r2) := by rw [if_neg (show ¬ (false = true) by decide)] at H; exact H
     clear H
     have H := H1
     clear H1
     simp only [Option.some.injEq, Prod.mk.injEq] at H
     obtain ⟨rfl, rfl⟩ := H
     go_enter Try.func16, Try.ntmps16
     go_wp2_with (first | ((with_reducible refine gate_dst (N := 2) rfl ?_); refine zb (w := w) 2 #[.int .i64 a0_0, .slice A0_1 l0_1.length c0_1] 28 zB ?_; clear HB; intro gb376 w13 HB BK376 GW376; have GE376 := GW376; have hcz14_0 := zy BK376 0; have hcz14_1 := zy BK376 1; have hfz14_0 := blk_frozen BK376.out 0; have hfz14_1 := blk_frozen BK376.out 1) | ((with_reducible refine gate_callee (f := 42) rfl ?_); refine zc 7 Try.func42 #[.agg #[.int .i64 a0_0, .slice A0_1 l0_1.length c0_1]] ?_; (with_reducible refine (impl_IsGraph.calls k a0_0 _ _ l0_1 true _ ?side1 ?side2 A3.out).mono ?_); (case side1 => exact zC (Kd.C_below HR0_1.out HB.out)); (case side2 => exact HC0_1.out); rintro e w15 ⟨rfl, hb⟩; refine ⟨_, rfl, ?_⟩; replace BK376 := zM (blk_below (g := gb376) (o := .cells #[.int .i64 a0_0, .slice A0_1 l0_1.length c0_1] 28 (0, 0)) (zK BK376.out) hb); replace HB := zM (below_step zB hb); (try clear hb); (try clear hb2); (try clear hk); (try clear hi)) | (go_at_call 46; (with_reducible refine (impl_between.calls a1 0 8 false _ A5.out).mono ?_); rintro e w' ⟨rfl, ⟨nd, rfl⟩⟩))
     go_ret2
     exact ⟨_, by first | rfl | (simp [errW_none, errW_some] <;> rfl) | (simp [*, errW_none, errW_some] <;> rfl), by first | exact Kd.S_nil _ _ _ _ _ | exact Kd.N_nil _ _ _ _ _ | exact Kd.V_nil _ _ _ _ _ | exact Kd.Q_nil _ _ _ _ _ | exact Kd.R_nil _ _ _ _ _, zB⟩
 · replace c4 := Bool.eq_false_iff.mpr c4
   subst c4
   have H1 : (some (([] : List (List Int)), false)) = some (r1, r2) := by rw [if_neg (show ¬ (false = true) by decide)] at H; exact H
   clear H
   have H := H1
   clear H1
   simp only [Option.some.injEq, Prod.mk.injEq] at H
   obtain ⟨rfl, rfl⟩ := H
   go_enter Try.func16, Try.ntmps16
   go_wp2_with (first | ((with_reducible refine gate_dst (N := 2) rfl ?_); refine zb (w := w) 2 #[.int .i64 a0_0, .slice A0_1 l0_1.length c0_1] 28 zB ?_; clear HB; intro gb376 w16 HB BK376 GW376; have GE376 := GW376; have hcz17_0 := zy BK376 0; have hcz17_1 := zy BK376 1; have hfz17_0 := blk_frozen BK376.out 0; have hfz17_1 := blk_frozen BK376.out 1) | ((with_reducible refine gate_callee (f := 42) rfl ?_); refine zc 7 Try.func42 #[.agg #[.int .i64 a0_0, .slice A0_1 l0_1.length c0_1]] ?_; (with_reducible refine (impl_IsGraph.calls k a0_0 _ _ l0_1 false _ ?side1 ?side2 A3.out).mono ?_); (case side1 => exact zC (Kd.C_below HR0_1.out HB.out)); (case side2 => exact HC0_1.out); rintro e w18 ⟨rfl, hb⟩; refine ⟨_, rfl, ?_⟩; replace BK376 := zM (blk_below (g := gb376) (o := .cells #[.int .i64 a0_0, .slice A0_1 l0_1.length c0_1] 28 (0, 0)) (zK BK376.out) hb); replace HB := zM (below_step zB hb); (try clear hb); (try clear hb2); (try clear hk); (try clear hi)))
   go_ret2
   exact ⟨_, by first | rfl | (simp [errW_none, errW_some] <;> rfl) | (simp [*, errW_none, errW_some] <;> rfl), by first | exact Kd.S_nil _ _ _ _ _ | exact Kd.N_nil _ _ _ _ _ | exact Kd.V_nil _ _ _ _ _ | exact Kd.Q_nil _ _ _ _ _ | exact Kd.R_nil _ _ _ _ _, zB⟩

end Go.Proofs.Ytadjbmcfgjmhkaa.P
namespace Go.Proofs.Ytadjbmcfgjmhkaa.P
open Go.RowKit Go.Proofs.YtadjbmcfgjmhkaaW.PrintWords Go.Proofs.YtadjbmcfgjmhkaaW.PrintLast Go.Proofs.YtadjbmcfgjmhkaaW.PrintMore
set_option linter.unusedVariables false
set_option linter.unusedSimpArgs false

def onlyL (a b : List Int) : List Int := a.filter fun x => !decide (x ∈ b)
def jumpS (x y : List Int) : Bool := (onlyL x y).length == 1 && (onlyL y x).length == 1
def addS (x y : List Int) : Bool := (onlyL x y).length + (onlyL y x).length == 1
def nearE (es : List S70) (a b : Int) : Bool := es.any fun e => (e.f0 == a && e.f1 == b) || (e.f0 == b && e.f1 == a)
def slideS (es : List S70) (x y : List Int) : Bool := jumpS x y && nearE es ((onlyL x y).headD 0) ((onlyL y x).headD 0)
def spaceR (ok : Bool) (st : List Int → List Int → Bool) (t : List (List Int)) : Option (List (List Int) × List S70 × Bool) :=
  if t.length ≤ 1024 ∧ ok = true then some (sortLL t, allSteps st 0 (sortLL t), true) else none
def allAre (f : List Int → List Int → Option Bool) (st : List Int → List Int → Bool) (t : List (List Int)) : Bool := decide (∀ x ∈ t, ∀ y ∈ t, f x y = some (st x y))
theorem add_at (k : Nat) (ls : List (List Int)) (w : World) (h : ∀ x ∈ ls, ∀ y ∈ ls, impl_isAdding.f k x y = some (addS x y)) : StepAt 57 #[] #[] addS ls w := by
  intro W x y A B c c' hx hy hb ha hc hb' hc'
  have h0 := impl_isAdding.calls k A c x B c' y _ W ha hc hb' hc' (h x hx y hy)
  rw [show (#[] : Array Value) ++ (#[.slice A x.length c, .slice B y.length c'] ++ #[]) = #[.slice A x.length c, .slice B y.length c'] from by simp]
  exact h0.mono fun e w' h => ⟨h.1, by first | exact h.2 | exact Drawn0.below h.2⟩
theorem slide_at (k : Nat) (a0 : Int) (A1 : Option Addr) (c1 : Nat) (l1 : List S70) (ls : List (List Int)) (w : World) (hr : Kd.C k70 w A1 l1.length l1) (hc1 : l1.length ≤ c1) (h : ∀ x ∈ ls, ∀ y ∈ ls, impl_Graph_isSlide.f k a0 l1 x y = some (slideS l1 x y)) : StepAt 60 #[.agg #[.int .i64 a0, .slice A1 l1.length c1]] #[] (slideS l1) ls w := by
  intro W x y A B c c' hx hy hb ha hc hb' hc'
  have h0 := impl_Graph_isSlide.calls k a0 A1 c1 l1 A c x B c' y _ W (Kd.C_below hr hb) hc1 ha hc hb' hc' (h x hx y hy)
  rw [show (#[.agg #[.int .i64 a0, .slice A1 l1.length c1]] : Array Value) ++ (#[.slice A x.length c, .slice B y.length c'] ++ #[]) = #[.agg #[.int .i64 a0, .slice A1 l1.length c1], .slice A x.length c, .slice B y.length c'] from by simp]
  exact h0.mono fun e w' h => ⟨h.1, by first | exact h.2 | exact Drawn0.below h.2⟩
def impl_SlideSpace.f (k : Nat) (a0_0 : Int) (l0_1 : List S70) (a1 : Int) : Option (List (List Int) × List S70 × Bool) :=
  (impl_IndependentSets.f k a0_0 l0_1 a1).bind fun t => if t.2 = true then spaceR (allAre (impl_Graph_isSlide.f k a0_0 l0_1) (slideS l0_1) t.1) (slideS l0_1) t.1 else some ([], [], false)
set_option maxRecDepth 100000 in
set_option maxHeartbeats 2000000 in
theorem impl_SlideSpace.calls (k : Nat) (a0_0 : Int) (A0_1 : Option Addr) (c0_1 : Nat) (l0_1 : List (S70)) (a1 : Int) (r1 : List (List Int)) (r2 : List S70) (r3 : Bool) (w : World) (hr0_1 : Kd.C k70 w A0_1 l0_1.length l0_1) (hc0_1 : l0_1.length ≤ c0_1) (h : impl_SlideSpace.f k a0_0 l0_1 a1 = some (r1, r2, r3)) :
    Calls Try.prog 36 #[.agg #[.int .i64 a0_0, .slice A0_1 l0_1.length c0_1], .int .i64 a1] w fun e w' => ∃ v0_ v1_ : Value, e = .returned (.tuple #[.agg #[v0_, v1_], .bool r3]) ∧ Kd.S (Kd.slice 3 (Kd.int .i64)) 39 w' w.heap.size (fun _ => True) v0_ r1 ∧ Kd.R k70 70 w' w.heap.size (fun _ => True) v1_ r2 ∧ Below w.heap.size w w' := by
  have hu := Try.underlying46
  have hug := Try.underlying28
  have HR := zM hr0_1
  have HC := zM hc0_1
  have HB := zM (Below.refl w.heap.size w)
  clear hr0_1 hc0_1
  unfold impl_SlideSpace.f at h
  obtain ⟨t, ht, h⟩ := Option.bind_eq_some_iff.mp h
  obtain ⟨ls, b⟩ := t
  have HT := zM ht
  clear ht
  cases b with
  | false =>
    simp only [Bool.false_eq_true, if_false, Option.some.injEq, Prod.mk.injEq] at h
    obtain ⟨rfl, rfl, rfl⟩ := h
    go_enter Try.func36, Try.ntmps36
    go_wp2_with (first
      | ((with_reducible refine gate_dst (N := 2) rfl ?_); refine ze 2 #[.int .i64 a0_0, .slice A0_1 l0_1.length c0_1] 28 ?_; intro g2 hg w1 hbox hb; have BK2 := zM hbox; replace HB := zM (below_step HB.out hb); clear hg hbox hb)
      | ((with_reducible refine gate_dst (N := 4) rfl ?_); refine ze 4 #[.slice none 0 0, .slice none 0 0] 46 ?_; intro g4 hg w2 hbox hb; have BK4 := zM hbox; have HG4 := zM (show w.heap.size ≤ g4 by rw [hg]; exact below_size HB.out); replace HB := zM (below_step HB.out hb); replace BK2 := zM (blk_below BK2.out hb); clear hg hbox hb; have hd0 := zy BK2 0; have hd1 := zy BK2 1)
      | (go_at_call 16; refine (impl_IndependentSets.calls k a0_0 A0_1 c0_1 l0_1 a1 _ _ _ (Kd.C_below HR.out HB.out) HC.out HT.out).mono ?_; rintro e w3 ⟨v3, rfl, ho, hb⟩; have BK2b := zM (blk_below BK2.out hb); have BK4b := zM (blk_below BK4.out hb); have HB3 := zM (below_step HB.out hb); have HBs := zM hb; have HS := zM ho; clear hb ho; have hc0 := zy BK4b 0; have hc1 := zy BK4b 1; have hf0 := blk_frozen BK4b.out 0; have hf1 := blk_frozen BK4b.out 1; clear hd0 hd1; have hd0 := zy BK2b 0; have hd1 := zy BK2b 1; have hg0 := blk_frozen BK2b.out 0; have hg1 := blk_frozen BK2b.out 1))
    (try simp only [Exit.inBlock, Exit.then])
    refine bodyPost_ret (results_ct rfl _ _ g4 46 #[.slice none 0 0, .slice none 0 0] (0, 0) _ rfl (blk_put (cs := #[.slice none 0 0, .slice none 0 0]) (blk_put (cs := #[.slice none 0 0, .slice none 0 0]) BK4b.out 0 _ rfl) 1 _ rfl) hu rfl (by kernel_rfl)) rfl ?_
    exact ⟨_, _, by first | rfl | (simp; done), Kd.S_nil _ _ _ _ _, Kd.R_nil _ _ _ _ _, below_set (below_set HB3.out HG4.out) HG4.out⟩
  | true =>
    simp only [if_true] at h
    unfold spaceR at h
    by_cases c : ls.length ≤ 1024 ∧ allAre (impl_Graph_isSlide.f k a0_0 l0_1) (slideS l0_1) ls = true
    case neg => rw [if_neg c] at h; cases h
    rw [if_pos c] at h
    simp only [Option.some.injEq, Prod.mk.injEq] at h
    obtain ⟨rfl, rfl, rfl⟩ := h
    have HST := zM (of_decide_eq_true c.2)
    have HL := zM c.1
    clear c
    go_enter Try.func36, Try.ntmps36
    go_wp2_with (first
      | ((with_reducible refine gate_dst (N := 2) rfl ?_); refine ze 2 #[.int .i64 a0_0, .slice A0_1 l0_1.length c0_1] 28 ?_; intro g2 hg w1 hbox hb; have BK2 := zM hbox; replace HB := zM (below_step HB.out hb); clear hg hbox hb)
      | ((with_reducible refine gate_dst (N := 4) rfl ?_); refine ze 4 #[.slice none 0 0, .slice none 0 0] 46 ?_; intro g4 hg w2 hbox hb; have BK4 := zM hbox; have HG4 := zM (show w.heap.size ≤ g4 by rw [hg]; exact below_size HB.out); replace HB := zM (below_step HB.out hb); replace BK2 := zM (blk_below BK2.out hb); clear hg hbox hb; have hd0 := zy BK2 0; have hd1 := zy BK2 1)
      | (go_at_call 16; refine (impl_IndependentSets.calls k a0_0 A0_1 c0_1 l0_1 a1 _ _ _ (Kd.C_below HR.out HB.out) HC.out HT.out).mono ?_; rintro e w3 ⟨v3, rfl, ho, hb⟩; have BK2b := zM (blk_below BK2.out hb); have BK4b := zM (blk_below BK4.out hb); have HB3 := zM (below_step HB.out hb); have HBs := zM hb; have HS := zM ho; clear hb ho; have hc0 := zy BK4b 0; have hc1 := zy BK4b 1; have hf0 := blk_frozen BK4b.out 0; have hf1 := blk_frozen BK4b.out 1; clear hd0 hd1; have hd0 := zy BK2b 0; have hd1 := zy BK2b 1; have hg0 := blk_frozen BK2b.out 0; have hg1 := blk_frozen BK2b.out 1)
      | (go_at_call 56; refine (spaceOf_calls 60 #[.agg #[.int .i64 a0_0, .slice A0_1 l0_1.length c0_1]] #[] (enters_of Try.func60 (by kernel_rfl) rfl) (slideS l0_1) v3 ls w2 w3 HBs.out HS.out HL.out (slide_at k a0_0 A0_1 c0_1 l0_1 ls w2 (Kd.C_below HR.out HB.out) HC.out HST.out)).mono ?_; rintro e w5 ⟨v5, v6, rfl, h0, h1, hb⟩; clear hc0 hc1 hf0 hf1 BK4b; have BK4b := zM (blk_below BK4.out hb); have HB5 := zM (below_step HB.out hb); have HS5 := zM (Kd.S_lower h0 (below_size HB.out)); have HR5 := zM (Kd.R_lower h1 (below_size HB.out)); clear h0 h1 hb; obtain ⟨A5, c5, e5⟩ := Kd.S_slice HS5.out; subst e5; obtain ⟨A6, c6, e6⟩ := Kd.R_slice HR5.out; subst e6; have hc0 := zy BK4b 0; have hc1 := zy BK4b 1; have hf0 := blk_frozen BK4b.out 0; have hf1 := blk_frozen BK4b.out 1))
    (try simp only [Exit.inBlock, Exit.then])
    refine bodyPost_ret (results_ct rfl _ _ g4 46 #[.slice A5 (sortLL ls).length c5, .slice A6 (allSteps (slideS l0_1) 0 (sortLL ls)).length c6] (0, 0) _ rfl (blk_put (cs := #[.slice A5 (sortLL ls).length c5, .slice none 0 0]) (blk_put (cs := #[.slice none 0 0, .slice none 0 0]) BK4b.out 0 _ rfl) 1 _ rfl) hu rfl (by kernel_rfl)) rfl ?_
    refine ⟨_, _, by first | rfl | (simp; done), ?_, ?_, below_set (below_set HB5.out HG4.out) HG4.out⟩
    · exact Kd.S_mono (Kd.S_far (p := ⟨g4, 1, none⟩) (Kd.S_far (p := ⟨g4, 0, none⟩) (Kd.S_types HS5.out BK4b.out (by decide)) (fun _ hk => hk.2) _) (fun _ hk => hk.2) _) (fun _ _ => trivial)
    · exact Kd.R_mono (Kd.R_far (p := ⟨g4, 1, none⟩) (Kd.R_far (p := ⟨g4, 0, none⟩) (Kd.R_types HR5.out BK4b.out (by decide)) (fun _ hk => hk.2) _) (fun _ hk => hk.2) _) (fun _ _ => trivial)
end Go.Proofs.Ytadjbmcfgjmhkaa.P
