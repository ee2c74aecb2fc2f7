/- impl's spaceOf: the space of some states, in order, with the steps of which something is so; for every world. -/
import Derived.Test.YtadjbmcfgjmhkaaAddSpaceG13
import Derived.Test.YtadjbmcfgjmhkaaAddSpaceG15
import Derived.Test.YtadjbmcfgjmhkaaAddSpaceG5
import Derived.Test.YtadjbmcfgjmhkaaAddSpaceG6
import Derived.Test.YtadjbmcfgjmhkaaAddSpaceG12
import Derived.Test.YtadjbmcfgjmhkaaAddSpaceG10
import Derived.Test.YtadjbmcfgjmhkaaAddSpaceG7
import Derived.Handy
import Derived.Test.YtadjbmcfgjmhkaaAddSpaceG11
namespace Go.Proofs.Ytadjbmcfgjmhkaa.P
open Go.RowKit Go.Proofs.YtadjbmcfgjmhkaaW.PrintWords Go.Proofs.YtadjbmcfgjmhkaaW.PrintLast Go.Proofs.YtadjbmcfgjmhkaaW.PrintMore
set_option linter.unusedVariables false
set_option linter.unusedSimpArgs false

/-- Function g, with what it is bound to, tells st of two of the lists; memory that was there at w stays. -/
def StepAt (g : Nat) (bs cb : Array Value) (st : List Int → List Int → Bool) (ls : List (List Int)) (w : World) : Prop :=
  ∀ (W : World) (x y : List Int) (A B : Option Addr) (c c' : Nat), x ∈ ls → y ∈ ls → Below w.heap.size w W → Kd.C (Kd.int .i64) W A x.length x → x.length ≤ c → Kd.C (Kd.int .i64) W B y.length y → y.length ≤ c' →
    Calls Try.prog g (bs ++ (#[.slice A x.length c, .slice B y.length c'] ++ cb)) W fun e w' => e = .returned (.bool (st x y)) ∧ Below W.heap.size W w'
def rowSteps (st : List Int → List Int → Bool) (a : List Int) (i : Nat) : Nat → List (List Int) → List S70
  | _, [] => []
  | k, b :: t => (if st a b = true then [⟨(i : Int), (k : Int)⟩] else []) ++ rowSteps st a i (k + 1) t
def allSteps (st : List Int → List Int → Bool) : Nat → List (List Int) → List S70
  | _, [] => []
  | i, a :: t => rowSteps st a i (i + 1) t ++ allSteps st (i + 1) t
theorem rowSteps_len (st : List Int → List Int → Bool) (a : List Int) (i : Nat) (t : List (List Int)) : ∀ k, (rowSteps st a i k t).length ≤ t.length := by
  induction t with
  | nil => intro k; exact Nat.le_refl _
  | cons b t ih =>
    intro k
    have := ih (k + 1)
    simp only [rowSteps, List.length_append, List.length_cons]
    split <;> simp only [List.length_nil, List.length_singleton] <;> omega
theorem allSteps_len (st : List Int → List Int → Bool) (t : List (List Int)) : ∀ i, (allSteps st i t).length ≤ t.length * t.length := by
  induction t with
  | nil => intro i; exact Nat.le_refl _
  | cons b t ih =>
    intro i
    have h1 := ih (i + 1)
    have h2 := rowSteps_len st b i t (i + 1)
    simp only [allSteps, List.length_append, List.length_cons]
    have : (t.length + 1) * (t.length + 1) = t.length * t.length + t.length + t.length + 1 := by rw [Nat.add_mul, Nat.mul_add]; omega
    omega
theorem row_C {w : World} {base : Nat} {ok : Nat → Prop} {g n cap m c : Nat} {A : Option Addr} {xs : List (List Int)} (h : Kd.S (Kd.slice 3 (Kd.int .i64)) 39 w base ok (.slice (some ⟨g, 0, none⟩) n cap) xs) (q : Nat) (hq : q < n) (hc : w.cell? ⟨g, q, none⟩ = some (.slice A m c)) :
    m = (xs.getD q []).length ∧ m ≤ c ∧ Kd.C (Kd.int .i64) w A (xs.getD q []).length (xs.getD q []) := by
  obtain ⟨cs, _, hM, hcc⟩ := Kd.S_get h ([] : List Int) (q : Int) (by omega) (by omega)
  obtain ⟨u, rfl, hR⟩ := hM
  have h2 := hcc 0 u rfl
  have e : (⟨g, 0, none⟩ : Addr).add ((q : Int).toNat * (Kd.slice 3 (Kd.int .i64)).sz + 0) = ⟨g, q, none⟩ := by
    show (⟨g, 0, none⟩ : Addr).add ((q : Int).toNat * 1 + 0) = _
    rw [Int.toNat_natCast, Nat.mul_one, Nat.add_zero, add_plain]
  rw [e, hc] at h2
  obtain rfl := Option.some.inj h2
  rw [Int.toNat_natCast] at hR
  obtain ⟨h3, h4, h5⟩ := Kd.R_reads' hR
  exact ⟨h3, h4, h5⟩
/-- The head of a row. -/
theorem row_head {w : World} {base : Nat} {ok : Nat → Prop} {g n cap : Nat} {xs : List (List Int)} (h : Kd.S (Kd.slice 3 (Kd.int .i64)) 39 w base ok (.slice (some ⟨g, 0, none⟩) n cap) xs) (q : Nat) (hq : q < n) :
    ∃ A c, w.cell? ⟨g, q, none⟩ = some (.slice A (xs.getD q []).length c) := by
  obtain ⟨cs, _, hM, hcc⟩ := Kd.S_get h ([] : List Int) (q : Int) (by omega) (by omega)
  obtain ⟨u, rfl, hR⟩ := hM
  have h2 := hcc 0 u rfl
  have e : (⟨g, 0, none⟩ : Addr).add ((q : Int).toNat * (Kd.slice 3 (Kd.int .i64)).sz + 0) = ⟨g, q, none⟩ := by
    show (⟨g, 0, none⟩ : Addr).add ((q : Int).toNat * 1 + 0) = _
    rw [Int.toNat_natCast, Nat.mul_one, Nat.add_zero, add_plain]
  rw [e] at h2
  rw [Int.toNat_natCast] at hR
  obtain ⟨A, c, rfl, _⟩ := Kd.R_reads hR
  exact ⟨A, c, h2⟩
set_option maxRecDepth 100000 in
set_option maxHeartbeats 4000000 in
theorem spaceOf_calls (g : Nat) (bs cb : Array Value) (eg : ∀ (args : Array Value) (w : World), (callFunc g args).run Try.prog w = .ok (.enter g args) w) (st : List Int → List Int → Bool) (u : Value) (ls : List (List Int)) (w ws : World) (hB : Below w.heap.size w ws)
    (ho : Kd.S (Kd.slice 3 (Kd.int .i64)) 39 ws w.heap.size (fun _ => True) u ls) (hlen : ls.length ≤ 1024) (hst : StepAt g bs cb st ls w) :
    Calls Try.prog 56 #[u, .func (.func g) bs cb] ws fun e w' => ∃ v0_ v1_ : Value, e = .returned (.agg #[v0_, v1_]) ∧ Kd.S (Kd.slice 3 (Kd.int .i64)) 39 w' w.heap.size (fun _ => True) v0_ (sortLL ls) ∧ Kd.R k70 70 w' w.heap.size (fun _ => True) v1_ (allSteps st 0 (sortLL ls)) ∧ Below w.heap.size w w' := by
  have hu := Try.underlying46
  obtain ⟨Au, cu, eu⟩ := Kd.S_slice ho
  subst eu
  have HS := zM ho
  have HB := zM hB
  have HL := zM hlen
  have HT := zM hst
  clear ho hB hlen hst
  go_enter Try.func56, Try.ntmps56
  go_wp2_with (first
    | ((with_reducible refine gate_dst (N := 4) rfl ?_); refine ze 4 #[.slice none 0 0, .slice none 0 0] 46 ?_; intro g4 hg w1 hbox hb; have BK4 := zM hbox; replace HS := zM (Kd.S_below HS.out hb); have HG4 := zM (show w.heap.size ≤ g4 by rw [hg]; exact below_size HB.out); replace HB := zM (below_step HB.out hb); clear hg hbox hb)
    | ((with_reducible refine gate_dst (N := 5) rfl ?_); refine ze 5 #[.slice none 0 0, .slice none 0 0] 46 ?_; intro g5 hg w2 hbox hb; have BK5 := zM hbox; replace HS := zM (Kd.S_below HS.out hb); have HG5 := zM (show w.heap.size ≤ g5 by rw [hg]; exact below_size HB.out); replace HB := zM (below_step HB.out hb); have NB := zM (show g4 ≠ g5 by rw [hg]; exact Nat.ne_of_lt (blk_lt BK4.out)); replace BK4 := zM (blk_below BK4.out hb); clear hg hbox hb; have hc0 := zy BK5 0; have hc1 := zy BK5 1; have hf0 := blk_frozen BK5.out 0; have hf1 := blk_frozen BK5.out 1)
    | (go_at_call 82; refine uBox BK5 HB HG5.out ?_; intro w3 BKn hk HBn; replace HS := zM (Kd.S_mono (ok' := fun _ => True) (Kd.S_kept (Kd.S_types HS.out BK5.out (by decide)) hk (fun k hk2 e => hk2.2 e)) (fun _ _ => trivial)); replace BK4 := zM (blk_kept BK4.out hk NB.out); clear BK5 HB hk; have BK5 := BKn; have HB := HBn; clear BKn HBn; refine (sortLists.calls (fun k => (True ∧ k ≠ g5) ∧ k ≠ g4) _ ls w _ HB.out (Kd.S_types (Kd.S_types HS.out BK5.out (by decide)) BK4.out (by decide)) (by have := HL.out; omega)).mono ?_; rintro e w4 ⟨rfl, ho, hb, hk⟩; clear HS; have HS := zM (Kd.S_mono (ok' := fun _ => True) ho (fun _ _ => trivial)); replace BK4 := zM (blk_kept BK4.out hk (fun h => h.2 rfl)); replace BK5 := zM (blk_kept BK5.out hk (fun h => h.1.2 rfl)); replace HB := zM hb; clear ho hb hk; replace hc0 := zy BK5 0; replace hc1 := zy BK5 1; replace hf0 := blk_frozen BK5.out 0; replace hf1 := blk_frozen BK5.out 1))
  have HTm := zM (fun x => (sortLL_mem ls x).1)
  have HTl := zM (sortLL_len ls)
  obtain ⟨T, hT⟩ : ∃ T, T = sortLL ls := ⟨_, rfl⟩
  rw [← hT] at HS HTm HTl
  have HTT := zM hT
  clear hT
  have HR0 := zM (Kd.R_nil k70 70 w4 w.heap.size (fun _ => True))
  have HSz := zM (show (allSteps st 0 T).length ≤ 1048576 by
    have h1 := allSteps_len st T 0
    have h2 := HL.out
    have h3 := HTl.out
    have h4 : T.length * T.length ≤ 1024 * 1024 := Nat.mul_le_mul (by omega) (by omega)
    omega)
  generalize hRR : allSteps st 0 T = RR at HSz
  have HRR := zM hRR
  clear hRR
  go_loopg [18] (ls.length + 1) (fun kq v18 w' => ∃ (i : Nat) (Q : List S70) (v1 : Value), v18 = .int .i64 (i : Int) ∧ Aside0 (i ≤ ls.length) ∧ Aside0 (kq = ls.length - i + 1) ∧ Aside0 (Q ++ allSteps st i (T.drop i) = RR) ∧ Aside0 (Kd.S (Kd.slice 3 (Kd.int .i64)) 39 w' w.heap.size (fun _ => True) (.slice Au ls.length cu) T) ∧ Aside0 (Kd.R k70 70 w' w.heap.size (fun _ => True) v1 Q) ∧ Aside0 (w'.heap[g5]? = some (.cells #[.slice Au ls.length cu, v1] 46 (0, 0))) ∧ Aside0 (w'.heap[g4]? = some (.cells #[.slice none 0 0, .slice none 0 0] 46 (0, 0))) ∧ Aside0 (Below w.heap.size w w'))
  case atStart => exact ⟨0, [], .slice none 0 0, by first | rfl | (simp; done), ⟨Nat.zero_le _⟩, ⟨by omega⟩, ⟨by rw [List.drop_zero, List.nil_append]; exact HRR.out⟩, HS, HR0, BK5, BK4, HB⟩
  case round =>
    clear HS HR0 BK5 BK4 HB hc0 hc1 hf0 hf1
    obtain ⟨i, Q, v1, rfl, HI, HK1, HQ, HS, HR, BK5, BK4, HB⟩ := hrel
    have hc0 := zy BK5 0
    have hc1 := zy BK5 1
    have hf0 := blk_frozen BK5.out 0
    have hf1 := blk_frozen BK5.out 1
    by_cases c1 : i < ls.length
    · obtain ⟨gS, capS, eS, gbS, glS, cS, hcS⟩ := Kd.S_form HS.out (by have := HTl.out; omega)
      injection eS with eA eN ec
      subst eA; subst ec
      clear eN
      have BKS := zM hcS
      obtain ⟨Ao, co, eo⟩ := Kd.R_slice HR.out
      subst eo
      obtain ⟨A0, c0, hx0⟩ := row_head HS.out i c1
      have HX0 := zM ((blk_cell BKS.out i).symm.trans hx0)
      have HCU := zM (show ls.length ≤ cu from (Kd.S_reads' HS.out).2.1)
      have HTi := zM (show T.getD i [] ∈ ls by
        have := HTl.out
        rw [List.getD_eq_getElem?_getD, List.getElem?_eq_getElem (by omega), Option.getD_some]
        exact HTm.out _ (List.getElem_mem _))
      have HQ2 := zM (show Q ++ rowSteps st (T.getD i []) i (i + 1) (T.drop (i + 1)) ++ allSteps st (i + 1) (T.drop (i + 1)) = RR by
        have := HTl.out
        have hi : i < T.length := by omega
        have h1 := HQ.out
        rw [List.drop_eq_getElem_cons hi] at h1
        rw [List.getD_eq_getElem?_getD, List.getElem?_eq_getElem hi, Option.getD_some, List.append_assoc]
        exact h1)
      generalize hTa : T.getD i [] = a at hx0 HX0 HTi HQ2
      have HTa := zM hTa
      clear hTa
      have HLN := zM HTl.out
      have q1 : (i : Int) < (ls.length : Int) := by omega
      have c1b : decide ((i : Int) < (ls.length : Int)) = true := decide_eq_true q1
      have c1c : decide (i < ls.length) = true := decide_eq_true c1
      have p1 : (0 : Int) ≤ (i : Int) := by omega
      have hw1 : (i : Int) + 1 ≤ 9223372036854775807 := by have := HL.out; omega
      obtain ⟨p, hp⟩ : ∃ p : Nat, p = i + 1 := ⟨_, rfl⟩
      have HPp := zM hp
      have hpi : (i : Int) + 1 = (p : Int) := by omega
      have hw2 : ((p : Int) ≤ (ls.length : Int)) = True := eq_true (by omega)
      have hw3 : (p ≤ ls.length) = True := eq_true (by omega)
      have hw4 : (p ≤ cu) = True := eq_true (by have := HCU.out; omega)
      have hw5 : (0 ≤ (p : Int)) = True := eq_true (by omega)
      obtain ⟨D, hD⟩ : ∃ D : Nat, ls.length - p = D := ⟨_, rfl⟩
      have HDD := zM hD
      have HPn := zM (show p ≤ ls.length by omega)
      have hpw : wrap64 (p : Int) = (p : Int) := wrap_nat (by omega) (by have := HL.out; omega)
      obtain ⟨B, hB⟩ : ∃ B : Option Addr, (if cu = p then some (⟨gS, 0, none⟩ : Addr) else some ⟨gS, p, none⟩) = B := ⟨_, rfl⟩
      clear hp hw1
      have HC1 := zM c1
      replace p1 := eq_true p1
      replace q1 := eq_true q1
      clear HQ hcS gbS glS c1
      go_wp2
      go_loopg [29] (D + 1) (fun kq v29 w' => ∃ (j : Nat) (Q2 : List S70) (v1 : Value), v29 = .int .i64 (j : Int) ∧ Aside0 (j ≤ D) ∧ Aside0 (kq = D - j + 1) ∧ Aside0 (Q2 ++ rowSteps st a i (p + j) (T.drop (p + j)) ++ allSteps st (i + 1) (T.drop (i + 1)) = RR) ∧ Aside0 (Kd.S (Kd.slice 3 (Kd.int .i64)) 39 w' w.heap.size (fun _ => True) (.slice (some ⟨gS, 0, none⟩) ls.length cu) T) ∧ Aside0 (Kd.R k70 70 w' w.heap.size (fun _ => True) v1 Q2) ∧ Aside0 (w'.heap[g5]? = some (.cells #[.slice (some ⟨gS, 0, none⟩) ls.length cu, v1] 46 (0, 0))) ∧ Aside0 (w'.heap[g4]? = some (.cells #[.slice none 0 0, .slice none 0 0] 46 (0, 0))) ∧ Aside0 (w'.heap[gS]? = some (.cells cS 39 (0, 0))) ∧ Aside0 (Below w.heap.size w w'))
      case atStart => exact ⟨0, Q, _, by first | rfl | (simp; done), ⟨Nat.zero_le _⟩, ⟨by omega⟩, ⟨by rw [Nat.add_zero, HPp.out]; exact HQ2.out⟩, HS, HR, BK5, BK4, BKS, HB⟩
      case round =>
        clear HS HR BK5 BK4 BKS HB hc0 hc1 hf0 hf1 hx0 HQ2
        obtain ⟨j, Q2, v1, rfl, HJ, HK2, HQ2, HS, HR, BK5, BK4, BKS, HB⟩ := hrel
        obtain ⟨Ao2, co2, eo2⟩ := Kd.R_slice HR.out
        subst eo2
        have hc0 := zy BK5 0
        have hc1 := zy BK5 1
        have hf0 := blk_frozen BK5.out 0
        have hf1 := blk_frozen BK5.out 1
        by_cases c2 : j < D
        · have hBv : B = some ⟨gS, p, none⟩ := by
            have := HDD.out
            have := HCU.out
            rw [← hB, if_neg (by omega)]
          clear hB
          subst hBv
          obtain ⟨q, hq⟩ : ∃ q : Nat, p + j = q := ⟨_, rfl⟩
          have hqn : q < ls.length := by have := HDD.out; omega
          obtain ⟨A1, c1', hx1⟩ := row_head HS.out q hqn
          have HX1 := zM hx1
          obtain ⟨la1, la2, la3⟩ := row_C HS.out i HC1.out ((blk_cell BKS.out i).trans HX0.out)
          obtain ⟨lb1, lb2, lb3⟩ := row_C HS.out q hqn hx1
          rw [HTa.out] at la3
          have HTb := zM (show T.getD q [] ∈ ls by
            have := HTl.out
            rw [List.getD_eq_getElem?_getD, List.getElem?_eq_getElem (by omega), Option.getD_some]
            exact HTm.out _ (List.getElem_mem _))
          have HQ3 := zM (show Q2 ++ (if st a (T.getD q []) = true then [(⟨(i : Int), (q : Int)⟩ : S70)] else []) ++ rowSteps st a i (p + (j + 1)) (T.drop (p + (j + 1))) ++ allSteps st (i + 1) (T.drop (i + 1)) = RR by
            have := HTl.out
            have hi : q < T.length := by omega
            have h1 := HQ2.out
            rw [hq, List.drop_eq_getElem_cons hi] at h1
            simp only [rowSteps] at h1
            rw [List.getD_eq_getElem?_getD, List.getElem?_eq_getElem hi, Option.getD_some, show p + (j + 1) = q + 1 by omega, List.append_assoc Q2]
            exact h1)
          generalize T.getD q [] = b at hx1 HX1 lb1 lb2 lb3 HTb HQ3
          have HCa := zM la3
          have HCb := zM lb3
          have HLa := zM la2
          have HLb := zM lb2
          have HQl := zM (show Q2.length < 1048577 by
            have h1 := congrArg List.length HQ3.out
            simp only [List.length_append] at h1
            have := HSz.out
            omega)
          have q2 : (j : Int) < (D : Int) := by omega
          have c2b : decide ((j : Int) < (D : Int)) = true := decide_eq_true q2
          have c2c : decide (j < D) = true := decide_eq_true c2
          have p2 : (0 : Int) ≤ (j : Int) := by omega
          have hw6 : (j : Int) + 1 ≤ 9223372036854775807 := by have := HL.out; omega
          have hqi : (p : Int) + (j : Int) = (q : Int) := by omega
          have hqw : wrap64 (q : Int) = (q : Int) := wrap_nat (by omega) (by have := HL.out; omega)
          have HJ2 := zM c2
          have hf2 := blk_frozen BKS.out
          replace p2 := eq_true p2
          replace q2 := eq_true q2
          have NS := zM (show gS ≠ g5 by
            intro e
            have h := BKS.out
            rw [e, BK5.out] at h
            injection h with h
            injection h with _ h
            exact absurd h (by decide))
          clear la1 la2 la3 lb1 lb2 lb3 c2 hqn HQ2 hf2
          cases hst : st a b with
          | true =>
            rw [hst, if_pos rfl] at HQ3
            have HSt := zM hst
            clear hst
            obtain ⟨Q5, hQ5⟩ : ∃ Q5, Q5 = Q2 ++ [(⟨(i : Int), (q : Int)⟩ : S70)] := ⟨_, rfl⟩
            rw [← hQ5] at HQ3
            have HQ5 := zM hQ5
            clear hQ5
            go_wp2_with (first
              | (go_at_fn g; refine (HT.out _ a b A0 A1 c0 c1' HTi.out HTb.out HB.out HCa.out HLa.out HCb.out HLb.out).mono ?_; rw [HSt.out]; rintro e w6 ⟨rfl, hb⟩; replace HS := zM (Kd.S_below HS.out hb); replace HR := zM (Kd.R_below HR.out hb); replace BK5 := zM (blk_below BK5.out hb); replace BK4 := zM (blk_below BK4.out hb); replace BKS := zM (blk_below BKS.out hb); replace HB := zM (below_step HB.out hb); clear hb; replace hc0 := zy BK5 0; replace hc1 := zy BK5 1; replace hf0 := blk_frozen BK5.out 0; replace hf1 := blk_frozen BK5.out 1)
              | ((with_reducible refine gate_builtin (b := .append) (xs := #[.tmp 39, .tmp 46]) rfl ?_); at_builtin; refine Kd.R_append k70 (w0 := w) w.heap.size rfl (.tmp 39) (.tmp 46) 22 70 (.agg #[(.int .i64 0), (.int .i64 0)]) 16 rfl Try.underlying22 info70 rfl (by decide) (by omega) (.slice Ao2 Q2.length co2) Q2 (⟨(i : Int), (q : Int)⟩ : S70) [.int .i64 (i : Int), .int .i64 (q : Int)] (fun _ => True) (fun _ => False) rfl rfl ?aP (fun _ hk => hk.elim) ?aF ?aO ?aB ?aS ?aL ?_; (case aP => exact k70_mkM _ _ _ (⟨(i : Int), (q : Int)⟩ : S70)); (case aB => exact zB); (case aF => exact (fun _ _ => trivial)); (case aO => exact (zR HR.out)); (case aS => exact (below_size zB)); (case aL => have := HQl.out; omega); intro v9 w9 ho hb hg hat; rw [← HQ5.out] at ho; obtain ⟨A9, c9, e9⟩ := Kd.R_slice ho; subst e9; replace HS := zM (Kd.S_over' HS.out (Kd.R_typed HR.out) (by decide) hg); replace BK5 := zM (blk_grown (zK BK5.out) hg (Kd.R_ne HR.out BK5.out (by decide))); replace BK4 := zM (blk_grown (zK BK4.out) hg (Kd.R_ne HR.out BK4.out (by decide))); replace BKS := zM (blk_grown (zK BKS.out) hg (Kd.R_ne HR.out BKS.out (by decide))); replace HB := zM hb; replace HR := zM ho; clear ho hb hg hat; replace hc0 := zy BK5 0; replace hc1 := zy BK5 1; replace hf0 := blk_frozen BK5.out 0; replace hf1 := blk_frozen BK5.out 1))
            go_roundg (D - j)
            case measure => have := HK2.out; have := HJ2.out; omega
            case rel => exact ⟨j + 1, Q5, _, by first | rfl | (simp; done) | go_num, ⟨by have := HJ2.out; omega⟩, ⟨by have := HJ2.out; omega⟩, HQ3, ⟨Kd.S_mono (Kd.S_far (p := ⟨g5, 1, none⟩) (Kd.S_types HS.out BK5.out (by decide)) (fun _ hk => hk.2) _) (fun _ _ => trivial)⟩, ⟨Kd.R_mono (Kd.R_far (p := ⟨g5, 1, none⟩) (Kd.R_types HR.out BK5.out (by decide)) (fun _ hk => hk.2) _) (fun _ _ => trivial)⟩, ⟨blk_put (cs := #[.slice (some ⟨gS, 0, none⟩) ls.length cu, .slice Ao2 Q2.length co2]) BK5.out 1 _ rfl⟩, ⟨blk_far BK4.out NB.out _⟩, ⟨blk_far BKS.out NS.out _⟩, ⟨below_set HB.out HG5.out⟩⟩
          | false =>
            rw [hst, if_neg (by decide), List.append_nil] at HQ3
            have HSt := zM hst
            clear hst
            go_wp2_with (go_at_fn g; refine (HT.out _ a b A0 A1 c0 c1' HTi.out HTb.out HB.out HCa.out HLa.out HCb.out HLb.out).mono ?_; rw [HSt.out]; rintro e w6 ⟨rfl, hb⟩; replace HS := zM (Kd.S_below HS.out hb); replace HR := zM (Kd.R_below HR.out hb); replace BK5 := zM (blk_below BK5.out hb); replace BK4 := zM (blk_below BK4.out hb); replace BKS := zM (blk_below BKS.out hb); replace HB := zM (below_step HB.out hb); clear hb; replace hc0 := zy BK5 0; replace hc1 := zy BK5 1; replace hf0 := blk_frozen BK5.out 0; replace hf1 := blk_frozen BK5.out 1)
            go_roundg (D - j)
            case measure => have := HK2.out; have := HJ2.out; omega
            case rel => exact ⟨j + 1, Q2, _, by first | rfl | (simp; done) | go_num, ⟨by have := HJ2.out; omega⟩, ⟨by have := HJ2.out; omega⟩, HQ3, HS, HR, BK5, BK4, BKS, HB⟩
        · have hj : j = D := by have := HJ.out; omega
          have c2b : decide ((j : Int) < (D : Int)) = false := decide_eq_false (by omega)
          have c2c : decide (j < D) = false := decide_eq_false c2
          have HQ4 := zM (show Q2 ++ allSteps st (i + 1) (T.drop (i + 1)) = RR by
            have h1 := HQ2.out
            have h2 := HTl.out
            have h3 := HDD.out
            have h4 := HPn.out
            rw [List.drop_eq_nil_of_le (show T.length ≤ p + j by omega)] at h1
            simpa [rowSteps] using h1)
          clear c2 hj HQ2
          have hwi : (i : Int) + 1 ≤ 9223372036854775807 := by have := HC1.out; have := HL.out; omega
          go_wp2
          go_roundg (ls.length - i)
          case measure => have := HK1.out; have := HC1.out; omega
          case rel => exact ⟨i + 1, Q2, _, by first | rfl | exact congrArg (fun z : Nat => Value.int .i64 (z : Int)) HPp.out | (simp; done) | go_num, ⟨by have := HC1.out; omega⟩, ⟨by have := HC1.out; omega⟩, HQ4, HS, HR, BK5, BK4, HB⟩
    · have hi : i = ls.length := by have := HI.out; omega
      have c1b : decide ((i : Int) < (ls.length : Int)) = false := decide_eq_false (by omega)
      have c1c : decide (i < ls.length) = false := decide_eq_false c1
      have HF := zM (show Q = RR by
        have h1 := HQ.out
        have h2 := HTl.out
        rw [List.drop_eq_nil_of_le (by omega)] at h1
        simpa [allSteps] using h1)
      have hd0 := zy BK4 0
      have hd1 := zy BK4 1
      have he0 := blk_frozen BK4.out 0
      have he1 := blk_frozen BK4.out 1
      obtain ⟨Ao, co, eo⟩ := Kd.R_slice HR.out
      subst eo
      clear c1 hi HQ
      go_wp2
      (try simp only [Exit.inBlock, Exit.then])
      refine bodyPost_ret (results_cell_row rfl _ _ g4 46 #[.slice Au ls.length cu, .slice Ao Q.length co] (0, 0) _ rfl (blk_put (cs := #[.slice Au ls.length cu, .slice none 0 0]) (blk_put (cs := #[.slice none 0 0, .slice none 0 0]) BK4.out 0 _ rfl) 1 _ rfl) hu rfl (by kernel_rfl)) rfl ?_
      refine ⟨_, _, rfl, ?_, ?_, below_set (below_set HB.out HG4.out) HG4.out⟩
      · rw [← HTT.out]
        exact Kd.S_mono (Kd.S_far (p := ⟨g4, 1, none⟩) (Kd.S_far (p := ⟨g4, 0, none⟩) (Kd.S_types HS.out BK4.out (by decide)) (fun _ hk => hk.2) _) (fun _ hk => hk.2) _) (fun _ _ => trivial)
      · rw [← HTT.out, HRR.out, ← HF.out]
        exact Kd.R_mono (Kd.R_far (p := ⟨g4, 1, none⟩) (Kd.R_far (p := ⟨g4, 0, none⟩) (Kd.R_types HR.out BK4.out (by decide)) (fun _ hk => hk.2) _) (fun _ hk => hk.2) _) (fun _ _ => trivial)
end Go.Proofs.Ytadjbmcfgjmhkaa.P
namespace Go.Proofs.Ytadjbmcfgjmhkaa.P
open Go.RowKit Go.Proofs.YtadjbmcfgjmhkaaW.PrintWords Go.Proofs.YtadjbmcfgjmhkaaW.PrintLast Go.Proofs.YtadjbmcfgjmhkaaW.PrintMore
attribute [local go_sem] max2_int min2_int max_two min_two max_three min_three max_four min_four   -- for this text's walks alone
set_option linter.unusedVariables false
set_option linter.unusedSimpArgs false

/-! ### impl_moves: function 84 -/
def impl_moves.f (k : Nat) (l0 : List Int) (l1 : List Int) : Option (Int × Int) := (impl_bagOf.f k l0).bind fun t352 => ((impl_bagOf.f k l1).bind fun t353 => (some (Go.bits .andNot .u64 t352 t353, Go.bits .andNot .u64 t353 t352)))
set_option maxHeartbeats 8000000 in
set_option maxRecDepth 100000 in
theorem impl_moves.calls (k : Nat) (A0 : Option Addr) (c0 : Nat) (l0 : List Int) (A1 : Option Addr) (c1 : Nat) (l1 : List Int) (r1 : Int) (r2 : Int) (w : World) (hr0 : Kd.C (Kd.int .i64) w A0 l0.length l0) (hc0 : l0.length ≤ c0) (hr1 : Kd.C (Kd.int .i64) w A1 l1.length l1) (hc1 : l1.length ≤ c1) (h : impl_moves.f k l0 l1 = some (r1, r2)) :
 Calls Try.prog 84 #[.slice A0 l0.length c0, .slice A1 l1.length c1] w fun e w' => e = .returned (.tuple #[.int .u64 r1, .int .u64 r2]) ∧ Drawn0 w w' := by
 have HR0 := Aside0.mk hr0
 have HC0 := Aside0.mk hc0
 clear hr0 hc0
 have HR1 := Aside0.mk hr1
 have HC1 := Aside0.mk hc1
 clear hr1 hc1
 have H : ((impl_bagOf.f k l0).bind fun t352 => ((impl_bagOf.f k l1).bind fun t353 => (some (Go.bits .andNot .u64 t352 t353, Go.bits .andNot .u64 t353 t352)))) = some (r1, r2) := h
 clear h
 replace H := Option.bind_eq_some_iff.mp H
 obtain ⟨t352, A30, H⟩ := H
 replace H : ((impl_bagOf.f k l1).bind fun t353 => (some (Go.bits .andNot .u64 t352 t353, Go.bits .andNot .u64 t353 t352))) = some (r1, r2) := H
 have A3 := Aside0.mk A30
 clear A30
 replace H := Option.bind_eq_some_iff.mp H
 obtain ⟨t353, A40, H⟩ := H
 replace H : (some (Go.bits .andNot .u64 t352 t353, Go.bits .andNot .u64 t353 t352)) = some (r1, r2) := H
 have A4 := Aside0.mk A40
 clear A40
 simp only [Option.some.injEq, Prod.mk.injEq] at H
 obtain ⟨rfl, rfl⟩ := H
 go_enter Try.func84, Try.ntmps84
 go_wp2_with (first | ((with_reducible refine gate_callee (f := 80) rfl ?_); refine zc 9 Try.func80 #[.slice A0 l0.length c0] ?_; (with_reducible refine (impl_bagOf.calls k _ _ l0 t352 _ ?side1 ?side2 A3.out).mono ?_); (case side1 => exact zC HR0.out); (case side2 => exact HC0.out); rintro e w' ⟨rfl, ⟨nd, rfl⟩⟩; refine ⟨_, rfl, ?_⟩) | ((with_reducible refine gate_callee (f := 80) rfl ?_); refine zc 11 Try.func80 #[.slice A1 l1.length c1] ?_; (with_reducible refine (impl_bagOf.calls k _ _ l1 t353 _ ?side1 ?side2 A4.out).mono ?_); (case side1 => exact zC HR1.out); (case side2 => exact HC1.out); rintro e w' ⟨rfl, ⟨nd, rfl⟩⟩; refine ⟨_, rfl, ?_⟩))
 go_ret2
 exact ⟨by first | rfl | (simp; done) | (simp [*]; done), by repeat (first | exact Drawn0.refl _ | apply Drawn0.step)⟩

/-! ### impl_isAdding: function 57 -/
def impl_isAdding.f (k : Nat) (l0 : List Int) (l1 : List Int) : Option (Bool) := (impl_moves.f k l0 l1).bind fun bt358 => ((impl_bag_size.f bt358.1).bind fun t360 => ((impl_bag_size.f bt358.2).bind fun t361 => (some ((wrap64 (t360 + t361)) == 1))))
set_option maxHeartbeats 8000000 in
set_option maxRecDepth 100000 in
theorem impl_isAdding.calls (k : Nat) (A0 : Option Addr) (c0 : Nat) (l0 : List Int) (A1 : Option Addr) (c1 : Nat) (l1 : List Int) (r : Bool) (w : World) (hr0 : Kd.C (Kd.int .i64) w A0 l0.length l0) (hc0 : l0.length ≤ c0) (hr1 : Kd.C (Kd.int .i64) w A1 l1.length l1) (hc1 : l1.length ≤ c1) (h : impl_isAdding.f k l0 l1 = some r) :
 Calls Try.prog 57 #[.slice A0 l0.length c0, .slice A1 l1.length c1] w fun e w' => e = .returned (.bool r) ∧ Below w.heap.size w w' := by
 have HR0 := Aside0.mk hr0
 have HC0 := Aside0.mk hc0
 clear hr0 hc0
 have HR1 := Aside0.mk hr1
 have HC1 := Aside0.mk hc1
 clear hr1 hc1
 have HB := zM (Below.refl w.heap.size w)
 have H : ((impl_moves.f k l0 l1).bind fun bt358 => ((impl_bag_size.f bt358.1).bind fun t360 => ((impl_bag_size.f bt358.2).bind fun t361 => (some ((wrap64 (t360 + t361)) == 1))))) = some r := h
 clear h
 replace H := Option.bind_eq_some_iff.mp H
 obtain ⟨⟨t358, t359⟩, A30, H⟩ := H
 replace H : ((impl_bag_size.f t358).bind fun t360 => ((impl_bag_size.f t359).bind fun t361 => (some ((wrap64 (t360 + t361)) == 1)))) = some r := H
 have A3 := Aside0.mk A30
 clear A30
 replace H := Option.bind_eq_some_iff.mp H
 obtain ⟨t360, A40, H⟩ := H
 have A4 := Aside0.mk A40
 clear A40
 replace H := Option.bind_eq_some_iff.mp H
 obtain ⟨t361, A50, H⟩ := H
 have A5 := Aside0.mk A50
 clear A50
 obtain rfl := Option.some.inj H
 go_enter Try.func57, Try.ntmps57
 go_wp2_with (first | ((with_reducible refine gate_callee (f := 84) rfl ?_); refine zc 10 Try.func84 #[.slice A0 l0.length c0, .slice A1 l1.length c1] ?_; (with_reducible refine (impl_moves.calls k _ _ l0 _ _ l1 t358 t359 _ ?side1 ?side2 ?side3 ?side4 A3.out).mono ?_); (case side1 => exact zC HR0.out); (case side2 => exact HC0.out); (case side3 => exact zC HR1.out); (case side4 => exact HC1.out); rintro e w' ⟨rfl, ⟨nd, rfl⟩⟩; refine ⟨_, rfl, ?_⟩) | ((with_reducible refine gate_callee (f := 70) rfl ?_); refine zc 14 Try.func70 #[.int .u64 t358] ?_; (with_reducible refine (impl_bag_size.calls t358 t360 _ A4.out).mono ?_); rintro e w6 ⟨rfl, hb⟩; refine ⟨_, rfl, ?_⟩; replace HB := zM (below_step zB hb); (try clear hb); (try clear hb2); (try clear hk); (try clear hi)) | ((with_reducible refine gate_callee (f := 70) rfl ?_); refine zc 16 Try.func70 #[.int .u64 t359] ?_; (with_reducible refine (impl_bag_size.calls t359 t361 _ A5.out).mono ?_); rintro e w7 ⟨rfl, hb⟩; refine ⟨_, rfl, ?_⟩; replace HB := zM (below_step zB hb); (try clear hb); (try clear hb2); (try clear hk); (try clear hi)))
 go_ret
 exact ⟨by first | rfl | (simp [errW_none, errW_some] <;> rfl) | (simp [*, errW_none, errW_some] <;> rfl), zB⟩

end Go.Proofs.Ytadjbmcfgjmhkaa.P
namespace Go.Proofs.Ytadjbmcfgjmhkaa.P
open Go.RowKit Go.Proofs.YtadjbmcfgjmhkaaW.PrintWords Go.Proofs.YtadjbmcfgjmhkaaW.PrintLast Go.Proofs.YtadjbmcfgjmhkaaW.PrintMore
set_option linter.unusedVariables false
set_option linter.unusedSimpArgs false

def onlyL (a b : List Int) : List Int := a.filter fun x => !decide (x ∈ b)
def jumpS (x y : List Int) : Bool := (onlyL x y).length == 1 && (onlyL y x).length == 1
def addS (x y : List Int) : Bool := (onlyL x y).length + (onlyL y x).length == 1
def nearE (es : List S70) (a b : Int) : Bool := es.any fun e => (e.f0 == a && e.f1 == b) || (e.f0 == b && e.f1 == a)
def slideS (es : List S70) (x y : List Int) : Bool := jumpS x y && nearE es ((onlyL x y).headD 0) ((onlyL y x).headD 0)
def spaceR (ok : Bool) (st : List Int → List Int → Bool) (t : List (List Int)) : Option (List (List Int) × List S70 × Bool) :=
  if t.length ≤ 1024 ∧ ok = true then some (sortLL t, allSteps st 0 (sortLL t), true) else none
def allAre (f : List Int → List Int → Option Bool) (st : List Int → List Int → Bool) (t : List (List Int)) : Bool := decide (∀ x ∈ t, ∀ y ∈ t, f x y = some (st x y))
theorem add_at (k : Nat) (ls : List (List Int)) (w : World) (h : ∀ x ∈ ls, ∀ y ∈ ls, impl_isAdding.f k x y = some (addS x y)) : StepAt 57 #[] #[] addS ls w := by
  intro W x y A B c c' hx hy hb ha hc hb' hc'
  have h0 := impl_isAdding.calls k A c x B c' y _ W ha hc hb' hc' (h x hx y hy)
  rw [show (#[] : Array Value) ++ (#[.slice A x.length c, .slice B y.length c'] ++ #[]) = #[.slice A x.length c, .slice B y.length c'] from by simp]
  exact h0.mono fun e w' h => ⟨h.1, by first | exact h.2 | exact Drawn0.below h.2⟩
def impl_AddSpace.f (k : Nat) (a0_0 : Int) (l0_1 : List S70) (a1 : Int) : Option (List (List Int) × List S70 × Bool) :=
  (impl_IsGraph.f k a0_0 l0_1).bind fun t1 => if t1 = true then (impl_between.f a1 0 8).bind fun t2 => if t2 = true then (impl_Graph_free.f a0_0 l0_1 a1 8).bind fun t => spaceR (allAre (impl_isAdding.f k) addS t) addS t else some ([], [], false) else some ([], [], false)
set_option maxRecDepth 100000 in
set_option maxHeartbeats 2000000 in
theorem impl_AddSpace.calls (k : Nat) (a0_0 : Int) (A0_1 : Option Addr) (c0_1 : Nat) (l0_1 : List (S70)) (a1 : Int) (r1 : List (List Int)) (r2 : List S70) (r3 : Bool) (w : World) (hr0_1 : Kd.C k70 w A0_1 l0_1.length l0_1) (hc0_1 : l0_1.length ≤ c0_1) (h : impl_AddSpace.f k a0_0 l0_1 a1 = some (r1, r2, r3)) :
    Calls Try.prog 29 #[.agg #[.int .i64 a0_0, .slice A0_1 l0_1.length c0_1], .int .i64 a1] w fun e w' => ∃ v0_ v1_ : Value, e = .returned (.tuple #[.agg #[v0_, v1_], .bool r3]) ∧ Kd.S (Kd.slice 3 (Kd.int .i64)) 39 w' w.heap.size (fun _ => True) v0_ r1 ∧ Kd.R k70 70 w' w.heap.size (fun _ => True) v1_ r2 ∧ Below w.heap.size w w' := by
  have hu := Try.underlying46
  have hug := Try.underlying28
  have HR := zM hr0_1
  have HC := zM hc0_1
  have HB := zM (Below.refl w.heap.size w)
  clear hr0_1 hc0_1
  unfold impl_AddSpace.f at h
  obtain ⟨b1, h1, h⟩ := Option.bind_eq_some_iff.mp h
  have H1 := zM h1
  clear h1
  cases b1 with
  | false =>
    simp only [Bool.false_eq_true, if_false, Option.some.injEq, Prod.mk.injEq] at h
    obtain ⟨rfl, rfl, rfl⟩ := h
    go_enter Try.func29, Try.ntmps29
    go_wp2_with (first
      | ((with_reducible refine gate_dst (N := 2) rfl ?_); refine ze 2 #[.int .i64 a0_0, .slice A0_1 l0_1.length c0_1] 28 ?_; intro g2 hg w1 hbox hb; have BK2 := zM hbox; replace HB := zM (below_step HB.out hb); clear hg hbox hb)
      | ((with_reducible refine gate_dst (N := 4) rfl ?_); refine ze 4 #[.slice none 0 0, .slice none 0 0] 46 ?_; intro g4 hg w2 hbox hb; have BK4 := zM hbox; have HG4 := zM (show w.heap.size ≤ g4 by rw [hg]; exact below_size HB.out); replace HB := zM (below_step HB.out hb); replace BK2 := zM (blk_below BK2.out hb); clear hg hbox hb; have hd0 := zy BK2 0; have hd1 := zy BK2 1)
      | (go_at_call 42; refine (impl_IsGraph.calls k a0_0 A0_1 c0_1 l0_1 false _ (Kd.C_below HR.out HB.out) HC.out H1.out).mono ?_; rintro e w7 ⟨rfl, hb0⟩; have hb : Below _ _ _ := (by first | exact hb0 | exact Drawn0.below hb0); replace BK2 := zM (blk_below BK2.out hb); replace BK4 := zM (blk_below BK4.out hb); replace HB := zM (below_step HB.out hb); clear hb hb0; have hc0 := zy BK4 0; have hc1 := zy BK4 1; have hf0 := blk_frozen BK4.out 0; have hf1 := blk_frozen BK4.out 1; clear hd0 hd1; have hd0 := zy BK2 0; have hd1 := zy BK2 1))
    (try simp only [Exit.inBlock, Exit.then])
    refine bodyPost_ret (results_ct rfl _ _ g4 46 #[.slice none 0 0, .slice none 0 0] (0, 0) _ rfl (blk_put (cs := #[.slice none 0 0, .slice none 0 0]) (blk_put (cs := #[.slice none 0 0, .slice none 0 0]) BK4.out 0 _ rfl) 1 _ rfl) hu rfl (by kernel_rfl)) rfl ?_
    exact ⟨_, _, by first | rfl | (simp; done), Kd.S_nil _ _ _ _ _, Kd.R_nil _ _ _ _ _, below_set (below_set HB.out HG4.out) HG4.out⟩
  | true =>
    simp only [if_true] at h
    obtain ⟨b2, h2, h⟩ := Option.bind_eq_some_iff.mp h
    have H2 := zM h2
    clear h2
    cases b2 with
    | false =>
      simp only [Bool.false_eq_true, if_false, Option.some.injEq, Prod.mk.injEq] at h
      obtain ⟨rfl, rfl, rfl⟩ := h
      go_enter Try.func29, Try.ntmps29
      go_wp2_with (first
        | ((with_reducible refine gate_dst (N := 2) rfl ?_); refine ze 2 #[.int .i64 a0_0, .slice A0_1 l0_1.length c0_1] 28 ?_; intro g2 hg w1 hbox hb; have BK2 := zM hbox; replace HB := zM (below_step HB.out hb); clear hg hbox hb)
        | ((with_reducible refine gate_dst (N := 4) rfl ?_); refine ze 4 #[.slice none 0 0, .slice none 0 0] 46 ?_; intro g4 hg w2 hbox hb; have BK4 := zM hbox; have HG4 := zM (show w.heap.size ≤ g4 by rw [hg]; exact below_size HB.out); replace HB := zM (below_step HB.out hb); replace BK2 := zM (blk_below BK2.out hb); clear hg hbox hb; have hd0 := zy BK2 0; have hd1 := zy BK2 1)
        | (go_at_call 42; refine (impl_IsGraph.calls k a0_0 A0_1 c0_1 l0_1 true _ (Kd.C_below HR.out HB.out) HC.out H1.out).mono ?_; rintro e w7 ⟨rfl, hb0⟩; have hb : Below _ _ _ := (by first | exact hb0 | exact Drawn0.below hb0); replace BK2 := zM (blk_below BK2.out hb); replace BK4 := zM (blk_below BK4.out hb); replace HB := zM (below_step HB.out hb); clear hb hb0; clear hd0 hd1; have hd0 := zy BK2 0; have hd1 := zy BK2 1)
        | (go_at_call 46; refine (impl_between.calls a1 0 8 false _ H2.out).mono ?_; rintro e w8 ⟨rfl, hb0⟩; have hb : Below _ _ _ := (by first | exact hb0 | exact Drawn0.below hb0); replace BK2 := zM (blk_below BK2.out hb); replace BK4 := zM (blk_below BK4.out hb); replace HB := zM (below_step HB.out hb); clear hb hb0; have hc0 := zy BK4 0; have hc1 := zy BK4 1; have hf0 := blk_frozen BK4.out 0; have hf1 := blk_frozen BK4.out 1; clear hd0 hd1; have hd0 := zy BK2 0; have hd1 := zy BK2 1))
      (try simp only [Exit.inBlock, Exit.then])
      refine bodyPost_ret (results_ct rfl _ _ g4 46 #[.slice none 0 0, .slice none 0 0] (0, 0) _ rfl (blk_put (cs := #[.slice none 0 0, .slice none 0 0]) (blk_put (cs := #[.slice none 0 0, .slice none 0 0]) BK4.out 0 _ rfl) 1 _ rfl) hu rfl (by kernel_rfl)) rfl ?_
      exact ⟨_, _, by first | rfl | (simp; done), Kd.S_nil _ _ _ _ _, Kd.R_nil _ _ _ _ _, below_set (below_set HB.out HG4.out) HG4.out⟩
    | true =>
      simp only [if_true] at h
      obtain ⟨ls, ht, h⟩ := Option.bind_eq_some_iff.mp h
      have HT := zM ht
      clear ht
      unfold spaceR at h
      by_cases c : ls.length ≤ 1024 ∧ allAre (impl_isAdding.f k) addS ls = true
      case neg => rw [if_neg c] at h; cases h
      rw [if_pos c] at h
      simp only [Option.some.injEq, Prod.mk.injEq] at h
      obtain ⟨rfl, rfl, rfl⟩ := h
      have HST := zM (of_decide_eq_true c.2)
      have HL := zM c.1
      clear c
      go_enter Try.func29, Try.ntmps29
      go_wp2_with (first
        | ((with_reducible refine gate_dst (N := 2) rfl ?_); refine ze 2 #[.int .i64 a0_0, .slice A0_1 l0_1.length c0_1] 28 ?_; intro g2 hg w1 hbox hb; have BK2 := zM hbox; replace HB := zM (below_step HB.out hb); clear hg hbox hb)
        | ((with_reducible refine gate_dst (N := 4) rfl ?_); refine ze 4 #[.slice none 0 0, .slice none 0 0] 46 ?_; intro g4 hg w2 hbox hb; have BK4 := zM hbox; have HG4 := zM (show w.heap.size ≤ g4 by rw [hg]; exact below_size HB.out); replace HB := zM (below_step HB.out hb); replace BK2 := zM (blk_below BK2.out hb); clear hg hbox hb; have hd0 := zy BK2 0; have hd1 := zy BK2 1)
        | (go_at_call 42; refine (impl_IsGraph.calls k a0_0 A0_1 c0_1 l0_1 true _ (Kd.C_below HR.out HB.out) HC.out H1.out).mono ?_; rintro e w7 ⟨rfl, hb0⟩; have hb : Below _ _ _ := (by first | exact hb0 | exact Drawn0.below hb0); replace BK2 := zM (blk_below BK2.out hb); replace BK4 := zM (blk_below BK4.out hb); replace HB := zM (below_step HB.out hb); clear hb hb0; clear hd0 hd1; have hd0 := zy BK2 0; have hd1 := zy BK2 1)
        | (go_at_call 46; refine (impl_between.calls a1 0 8 true _ H2.out).mono ?_; rintro e w8 ⟨rfl, hb0⟩; have hb : Below _ _ _ := (by first | exact hb0 | exact Drawn0.below hb0); replace BK2 := zM (blk_below BK2.out hb); replace BK4 := zM (blk_below BK4.out hb); replace HB := zM (below_step HB.out hb); clear hb hb0; clear hd0 hd1; have hd0 := zy BK2 0; have hd1 := zy BK2 1)
        | (go_at_call 43; refine (impl_Graph_free.calls a0_0 A0_1 c0_1 l0_1 a1 8 ls _ (Kd.C_below HR.out HB.out) HC.out HT.out).mono ?_; rintro e w3 ⟨v3, rfl, ho, hb⟩; have BK4b := zM (blk_below BK4.out hb); have HB3 := zM (below_step HB.out hb); have HBs := zM hb; have HS := zM ho; clear hb ho; have hc0 := zy BK4b 0; have hc1 := zy BK4b 1; have hf0 := blk_frozen BK4b.out 0; have hf1 := blk_frozen BK4b.out 1)
        | (go_at_call 56; refine (spaceOf_calls 57 #[] #[] (enters_of Try.func57 (by kernel_rfl) rfl) addS v3 ls _ w3 HBs.out HS.out HL.out (add_at k ls _ HST.out)).mono ?_; rintro e w5 ⟨v5, v6, rfl, h0, h1, hb⟩; clear hc0 hc1 hf0 hf1 BK4b; have BK4b := zM (blk_below BK4.out hb); have HB5 := zM (below_step HB.out hb); have HS5 := zM (Kd.S_lower h0 (below_size HB.out)); have HR5 := zM (Kd.R_lower h1 (below_size HB.out)); clear h0 h1 hb; obtain ⟨A5, c5, e5⟩ := Kd.S_slice HS5.out; subst e5; obtain ⟨A6, c6, e6⟩ := Kd.R_slice HR5.out; subst e6; have hc0 := zy BK4b 0; have hc1 := zy BK4b 1; have hf0 := blk_frozen BK4b.out 0; have hf1 := blk_frozen BK4b.out 1))
      (try simp only [Exit.inBlock, Exit.then])
      refine bodyPost_ret (results_ct rfl _ _ g4 46 #[.slice A5 (sortLL ls).length c5, .slice A6 (allSteps addS 0 (sortLL ls)).length c6] (0, 0) _ rfl (blk_put (cs := #[.slice A5 (sortLL ls).length c5, .slice none 0 0]) (blk_put (cs := #[.slice none 0 0, .slice none 0 0]) BK4b.out 0 _ rfl) 1 _ rfl) hu rfl (by kernel_rfl)) rfl ?_
      refine ⟨_, _, by first | rfl | (simp; done), ?_, ?_, below_set (below_set HB5.out HG4.out) HG4.out⟩
      · exact Kd.S_mono (Kd.S_far (p := ⟨g4, 1, none⟩) (Kd.S_far (p := ⟨g4, 0, none⟩) (Kd.S_types HS5.out BK4b.out (by decide)) (fun _ hk => hk.2) _) (fun _ hk => hk.2) _) (fun _ _ => trivial)
      · exact Kd.R_mono (Kd.R_far (p := ⟨g4, 1, none⟩) (Kd.R_far (p := ⟨g4, 0, none⟩) (Kd.R_types HR5.out BK4b.out (by decide)) (fun _ hk => hk.2) _) (fun _ hk => hk.2) _) (fun _ _ => trivial)
end Go.Proofs.Ytadjbmcfgjmhkaa.P
namespace Go.Proofs.Ytadjbmcfgjmhkaa.P
open Go.RowKit Go.Proofs.YtadjbmcfgjmhkaaW.PrintWords Go.Proofs.YtadjbmcfgjmhkaaW.PrintLast Go.Proofs.YtadjbmcfgjmhkaaW.PrintMore
attribute [local go_sem] max2_int min2_int max_two min_two max_three min_three max_four min_four   -- for this text's walks alone
set_option linter.unusedVariables false
set_option linter.unusedSimpArgs false

/-! ### laws_markIntS: function 24 -/
def laws_markIntS.l0 : Nat → List Int → Int → Int → Option (Int × List Int)
 | 0, _, _, _ => none
 | k + 1, x0, x1, x5 => if x5 < (x0.length : Int) then (if 0 ≤ x5 then (laws_markIntS.l0 k (x0.set (x5 : Int).toNat x1) (wrap64 (x1 + 1)) (wrap64 (x5 + 1))) else (none)) else (some (x1, x0))
def laws_markIntS.f (k : Nat) (l0 : List Int) (a1 : Int) : Option (Int × List Int) := laws_markIntS.l0 k l0 a1 0
set_option maxHeartbeats 8000000 in
set_option maxRecDepth 100000 in
theorem laws_markIntS.calls (k : Nat) (P0_ : Nat → Prop) (u9000_ : Value) (l0 : List Int) (a1 : Int) (r1 : Int) (r2 : List Int) (w0 w : World) (hB : Below w0.heap.size w0 w) (ho0 : Kd.R (Kd.int .i64) 3 w w0.heap.size P0_ u9000_ l0) (h : laws_markIntS.f k l0 a1 = some (r1, r2)) :
 Calls Try.prog 24 #[u9000_, .int .i64 a1] w fun e w' => e = .returned (.int .i64 r1) ∧ Kd.R (Kd.int .i64) 3 w' w0.heap.size (fun k_ => (P0_ k_ ∨ w.heap.size ≤ k_)) u9000_ r2 ∧ Below w0.heap.size w0 w' ∧ Kept w w' (fun k_ => P0_ k_) := by
 have HO0 := zM (show Kd.R (Kd.int .i64) 3 w w0.heap.size (fun k_ => (P0_ k_ ∨ w.heap.size ≤ k_)) u9000_ l0 from Kd.R_mono ho0 (fun k_ hk => (.inl hk)))
 have HK := zM (Kept.refl w (fun k_ => P0_ k_))
 have HW0 := Aside0.mk hB.size
 have HB := Aside0.mk hB
 clear hB
 have H : (laws_markIntS.l0 k l0 a1 0) = some (r1, r2) := h
 clear h
 have H' := Aside0.mk H
 clear H
 go_enter Try.func24, Try.ntmps24
 go_wp2
 go_loopg [1, 5] k (fun kq v1 v5 w' => ∃ (x0_1 : List Int) (x1_1 : Int) (x5_1 : Int), v1 = .int .i64 x1_1 ∧ v5 = .int .i64 x5_1 ∧ Aside0 (laws_markIntS.l0 kq x0_1 x1_1 x5_1 = some (r1, r2)) ∧ Aside0 (kq ≤ k) ∧ Aside0 (Kd.R (Kd.int .i64) 3 w' w0.heap.size (fun k_ => (P0_ k_ ∨ w.heap.size ≤ k_)) u9000_ x0_1) ∧ Aside0 (Kept w w' (fun k_ => P0_ k_)) ∧ Aside0 (Below w0.heap.size w0 w'))
 case atStart => exact ⟨(l0), (a1), (0), (by first | rfl | (simp; done) | (simp [*]; done)), (by first | rfl | (simp; done) | (simp [*]; done)), H', ⟨Nat.le_refl _⟩, ⟨zR HO0.out⟩, ⟨by repeat (first | (with_reducible first | exact HK.out | apply Kept.alloc | apply Kept.drewN | apply Kept.drew) | exact HK.out)⟩, ⟨zB⟩⟩
 case round =>
  clear H'
  try clear c2
  try clear p2
  obtain ⟨x0_1, x1_1, x5_1, rfl, rfl, HA, HK1, HO_0, HK, HB⟩ := hrel
  cases gk with
  | zero => exact absurd HA.out (by simp [laws_markIntS.l0])
  | succ k1 =>
   have H := HA.out
   clear HA
   simp only [laws_markIntS.l0] at H
   by_cases c3 : x5_1 < (x0_1.length : Int)
   · rw [if_pos c3] at H
     have c3b0 := decide_eq_true c3
     clear c3
     by_cases c4 : 0 ≤ x5_1
     · rw [if_pos c4] at H
       have c4b0 := decide_eq_true c4
       clear c4
       obtain ⟨y134, hy134⟩ : ∃ y_ : List Int, y_ = (x0_1.set (x5_1 : Int).toNat x1_1) := ⟨_, rfl⟩
       replace H : (laws_markIntS.l0 k1 y134 (wrap64 (x1_1 + 1)) (wrap64 (x5_1 + 1))) = some (r1, r2) := by first | (rw [hy134]; with_reducible exact H) | (have H2_ := (Option.bind_some _ _).symm.trans H; rw [hy134]; with_reducible exact H2_) | (have H2_ := (Option.bind_some _ _).symm.trans H; with_reducible exact H2_) | with_reducible exact H | (rw [hy134]; exact H) | exact H
       have Ny134 := Aside0.mk hy134
       clear hy134
       have H' := Aside0.mk H
       clear H
       obtain ⟨Ao6, co6, eo6⟩ := Kd.R_slice HO_0.out
       subst eo6
       have p5 : 0 ≤ (x5_1 : Int) := of_decide_eq_true zA
       have q5 : (x5_1 : Int) < ((x0_1.length : Int) : Int) := of_decide_eq_true zA
       obtain ⟨go5, co5, eo5, gb5, gl5, cl5, HG5⟩ := Kd.R_form HO_0.out (by omega)
       (first | cases eo5 | (injection eo5 with ea_ en_ ec_; (first | subst ea_ | (injection ea_ with ea_; subst ea_)); subst ec_; clear en_))
       have GB5 := Aside0.mk gb5
       have GG5 := Aside0.mk HG5
       clear gb5 gl5 HG5
       have HMgo5 := zM (show (P0_ go5 ∨ w.heap.size ≤ go5) from (HO_0.out.1 _ rfl))
       obtain ⟨hx5_0, hf5_0⟩ := Kd.R_celln 0 HO_0.out (x5_1 : Int) p5 q5
       replace p5 := eq_true p5
       replace q5 := eq_true q5
       have HP7 := Kd.R_putg HO_0.out (x5_1 : Int) x1_1
       go_wp2_with (first | ((with_reducible refine gate_store (t := 3) (p := 15) rfl ?_); refine store_event (t := 3) (p := 15) (v := ?vo_w8) (w1 := (wr.setCell ⟨go5, (x5_1 : Int).toNat, none⟩ (.int .i64 x1_1))) ?hg ?ho ?hn ?hr ?_; (case ho => rfl); (case hg => rfl); (case hn => rfl); (case hr => first | (go_simp; done) | (go_simp; rfl)); intro w8 hw; have hg : wr.grownBy w8 (some go5) := (by rw [hw]; exact HP7.2); have hp_ : Kd.R (Kd.int .i64) 3 w8 w0.heap.size (fun k_ => (P0_ k_ ∨ w.heap.size ≤ k_)) (.slice (some ⟨go5, 0, none⟩) x0_1.length co6) y134 := (by rw [hw, Ny134.out]; exact HP7.1); clear HP7; replace HB := zM ((by rw [hw]; exact below_set (HB.out) GB5.out : Below w0.heap.size w0 w8)); replace HK := zM (Kept.of_grown (S := (fun k_ => P0_ k_)) hg (by repeat (first | (with_reducible first | exact HK.out | apply Kept.alloc | apply Kept.drewN | apply Kept.drew) | exact HK.out)) (fun k_ e_ => (HO_0.out.1 k_ e_))); replace HO_0 := zM (hp_); clear hg hw hp_))
       go_roundg k1
       case measure => have := HK1.out; omega
       case rel => exact ⟨(y134), (wrap64 (x1_1 + 1)), (wrap64 (x5_1 + 1)), (by first | rfl | (simp; done) | (simp [*]; done)), (by first | rfl | (simp; done) | (simp [*]; done)), H', ⟨by have := HK1.out; omega⟩, ⟨zR HO_0.out⟩, ⟨by repeat (first | (with_reducible first | exact HK.out | apply Kept.alloc | apply Kept.drewN | apply Kept.drew) | exact HK.out)⟩, ⟨zB⟩⟩
     · rw [if_neg c4] at H
       exact absurd H (by simp)
   · rw [if_neg c3] at H
     have c3b0 : decide (x5_1 < (x0_1.length : Int)) = false := decide_eq_false c3
     clear c3
     simp only [Option.some.injEq, Prod.mk.injEq] at H
     obtain ⟨rfl, rfl⟩ := H
     obtain ⟨Ao9, co9, eo9⟩ := Kd.R_slice HO_0.out
     subst eo9
     go_wp2
     go_ret
     exact ⟨by first | rfl | (simp [errW_none, errW_some] <;> rfl) | (simp [*, errW_none, errW_some] <;> rfl), by (with_reducible repeat (first | apply Kd.R_alloc | apply Kd.R_drewN | apply Kd.R_drew)); exact HO_0.out, by repeat (first | (with_reducible first | exact HB.out | apply below_alloc | apply pw_below_drewN | apply below_drew1) | exact HB.out), by repeat (first | (with_reducible first | exact HK.out | apply Kept.alloc | apply Kept.drewN | apply Kept.drew) | exact HK.out)⟩

end Go.Proofs.Ytadjbmcfgjmhkaa.P
namespace Go.Proofs.Ytadjbmcfgjmhkaa.P
open Go.RowKit Go.Proofs.YtadjbmcfgjmhkaaW.PrintWords Go.Proofs.YtadjbmcfgjmhkaaW.PrintLast Go.Proofs.YtadjbmcfgjmhkaaW.PrintMore
set_option linter.unusedVariables false
set_option linter.unusedSimpArgs false

def seqS : Nat → Int → List Int
  | 0, _ => []
  | n + 1, k => k :: seqS n (wrap64 (k + 1))
def endS : Nat → Int → Int
  | 0, k => k
  | n + 1, k => endS n (wrap64 (k + 1))
theorem markS_loop (d : Nat) : ∀ (done rest : List Int) (c : Int), rest.length = d → done.length + d ≤ 9223372036854775807 →
    ∃ k, laws_markIntS.l0 k (done ++ rest) c (done.length : Int) = some (endS d c, done ++ seqS d c) := by
  induction d with
  | zero =>
    intro done rest c h0 h1
    have : rest = [] := List.eq_nil_of_length_eq_zero h0
    subst this
    refine ⟨1, ?_⟩
    rw [laws_markIntS.l0, if_neg (by simp)]
    rfl
  | succ d ih =>
    intro done rest c h0 h1
    obtain ⟨x, t, rfl⟩ : ∃ x t, rest = x :: t := by
      cases rest with
      | nil => simp at h0
      | cons x t => exact ⟨x, t, rfl⟩
    have h2 : t.length = d := by simpa using h0
    obtain ⟨k, hk⟩ := ih (done ++ [c]) t (wrap64 (c + 1)) h2 (by rw [List.length_append, List.length_singleton]; omega)
    refine ⟨k + 1, ?_⟩
    have e : (done ++ x :: t).set ((done.length : Int)).toNat c = (done ++ [c]) ++ t := by
      rw [Int.toNat_natCast]
      simp
    have hw : wrap64 ((done.length : Int) + 1) = ((done ++ [c]).length : Int) := by
      rw [List.length_append, List.length_singleton]
      unfold wrap64
      omega
    rw [laws_markIntS.l0, if_pos (by simp; omega), if_pos (by omega), e, hw, hk]
    simp only [seqS, endS, List.append_assoc, List.singleton_append]
theorem markS_some (l : List Int) (c : Int) (hl : l.length ≤ 9223372036854775807) : ∃ k, laws_markIntS.f k l c = some (endS l.length c, seqS l.length c) := by
  obtain ⟨k, hk⟩ := markS_loop l.length [] l c rfl (by simpa using hl)
  exact ⟨k, by unfold laws_markIntS.f; simpa only [List.nil_append, List.length_nil, Int.natCast_zero] using hk⟩
def markSS : List (List Int) → Int → Int × List (List Int)
  | [], k => (k, [])
  | l :: t, k => ((markSS t (endS l.length k)).1, seqS l.length k :: (markSS t (endS l.length k)).2)
def laws_markIntSS.f (l0 : List (List Int)) (a1 : Int) : Option (Int × List (List Int)) := some (markSS l0 a1)
theorem set_midS {α : Type} (done : List α) (l : List α) (m : Nat) (hd : done.length = m) (hm : m < l.length) (x : α) : (done ++ l.drop m).set m x = (done ++ [x]) ++ l.drop (m + 1) := by
  subst hd
  rw [List.drop_eq_getElem_cons hm, List.set_append_right _ _ (Nat.le_refl _), Nat.sub_self, List.set_cons_zero, List.append_assoc, List.singleton_append]
set_option maxRecDepth 100000 in
set_option maxHeartbeats 2000000 in
theorem laws_markIntSS.calls (P0_ : Nat → Prop) (u9000_ : Value) (l0 : List (List Int)) (a1 : Int) (r1 : Int) (r2 : List (List Int)) (w0 w : World) (hB : Below w0.heap.size w0 w) (ho0 : Kd.S (Kd.slice 3 (Kd.int .i64)) 39 w w0.heap.size P0_ u9000_ l0) (h : laws_markIntSS.f l0 a1 = some (r1, r2)) :
    Calls Try.prog 19 #[u9000_, .int .i64 a1] w fun e w' => e = .returned (.int .i64 r1) ∧ Kd.S (Kd.slice 3 (Kd.int .i64)) 39 w' w0.heap.size (fun k_ => (P0_ k_ ∨ w.heap.size ≤ k_)) u9000_ r2 ∧ Below w0.heap.size w0 w' ∧ Kept w w' (fun k_ => P0_ k_) := by
  have HO := Aside0.mk (show Kd.S (Kd.slice 3 (Kd.int .i64)) 39 w w0.heap.size (fun k_ => (P0_ k_ ∨ w.heap.size ≤ k_)) u9000_ l0 from Kd.S_mono ho0 (fun k_ hk => (.inl hk)))
  unfold laws_markIntSS.f at h
  have H' := Aside0.mk (Option.some.inj h)
  obtain ⟨A, c, e0⟩ := Kd.S_slice ho0
  have HL := Aside0.mk (show l0.length ≤ 9223372036854775807 by
    obtain ⟨A', c', _, _, hc⟩ := Kd.S_reads ho0
    exact hc.2.1)
  have HB0 := Aside0.mk hB
  clear h hB ho0
  subst e0
  go_enter Try.func19, Try.ntmps19
  go_wp2
  go_loopg [5, 1, 6] (l0.length + 1) (fun kq v5 v1 v6 w' => ∃ (m : Nat) (kk : Int) (done : List (List Int)), v5 = .int .i64 m ∧ v1 = .int .i64 kk ∧ Aside0 (m ≤ l0.length) ∧ Aside0 (kq = l0.length - m + 1) ∧ Aside0 (done.length = m) ∧ Aside0 ((markSS (l0.drop m) kk).1 = r1 ∧ done ++ (markSS (l0.drop m) kk).2 = r2) ∧ Aside0 (Kd.S (Kd.slice 3 (Kd.int .i64)) 39 w' w0.heap.size (fun k_ => (P0_ k_ ∨ w.heap.size ≤ k_)) (.slice A l0.length c) (done ++ l0.drop m)) ∧ Aside0 (Below w0.heap.size w0 w') ∧ Aside0 (Kept w w' (fun k_ => P0_ k_)))
  case atStart => exact ⟨0, a1, [], rfl, rfl, ⟨Nat.zero_le _⟩, ⟨by omega⟩, ⟨rfl⟩, ⟨by rw [List.drop_zero, H'.out]; exact ⟨rfl, rfl⟩⟩, ⟨by rw [List.drop_zero]; exact HO.out⟩, HB0, ⟨Kept.refl _ _⟩⟩
  case round =>
    clear H' HO HB0
    obtain ⟨m, kk, done, rfl, rfl, HM, HK1, HD, HA, HO, HB, HK⟩ := hrel
    have HN := Aside0.mk (show (done ++ l0.drop m).length = l0.length by rw [List.length_append, List.length_drop, HD.out]; have := HM.out; omega)
    by_cases c1 : m < l0.length
    · have q1 : (m : Int) < (l0.length : Int) := by omega
      obtain ⟨g, cap, eg, gb, gl, HG⟩ := Kd.S_form HO.out (by rw [HN.out]; omega)
      rw [HN.out] at eg
      injection eg with eA _ ec
      subst eA; subst ec
      obtain ⟨oki, cs, hcl, hM, hcc, hoki, HH⟩ := Kd.S_lend HO.out ([] : List Int) (m : Int) (by omega) q1
      obtain ⟨v, rfl, hR⟩ := hM
      have hrow : (done ++ l0.drop m).getD (m : Int).toNat [] = l0[m] := by
        rw [Int.toNat_natCast, List.getD_eq_getElem?_getD, List.getElem?_append_right (by rw [HD.out]; exact Nat.le_refl _), HD.out, Nat.sub_self, List.getElem?_drop, Nat.add_zero, List.getElem?_eq_getElem c1, Option.getD_some]
      rw [hrow] at hR
      have hx0 := hcc 0 _ rfl
      rw [Int.toNat_natCast, show (Kd.slice 3 (Kd.int .i64)).sz = 1 from rfl, Nat.mul_one, Nat.add_zero] at hx0
      have hll : (l0[m]).length ≤ 9223372036854775807 := by
        obtain ⟨A', c', _, _, hc⟩ := Kd.R_reads hR
        exact hc.2.1
      obtain ⟨kf, hf⟩ := markS_some l0[m] kk hll
      have HF := Aside0.mk hf
      have HRo := Aside0.mk hR
      have HHo := Aside0.mk HH
      have HOk := Aside0.mk hoki
      have HE := Aside0.mk (set_midS done l0 m HD.out c1 (seqS (l0[m]).length kk))
      have H2 : Aside0 ((markSS (l0.drop (m + 1)) (endS (l0[m]).length kk)).1 = r1 ∧ (done ++ [seqS (l0[m]).length kk]) ++ (markSS (l0.drop (m + 1)) (endS (l0[m]).length kk)).2 = r2) := ⟨by
        have e_ := HA.out
        rw [List.drop_eq_getElem_cons c1] at e_
        simp only [markSS] at e_
        rw [List.append_assoc, List.singleton_append]
        exact e_⟩
      obtain ⟨Av, cv, ev⟩ := Kd.R_slice hR
      subst ev
      generalize hk2 : endS (l0[m]).length kk = k2 at HF H2
      generalize hs2 : seqS (l0[m]).length kk = s2 at HF H2 HE
      generalize l0[m] = row at HF HRo hx0 HHo
      clear HA hcc hcl gl HG gb hR HH hoki hf hk2 hs2 hrow hll
      have c1b : decide ((m : Int) < (l0.length : Int)) = true := decide_eq_true q1
      have c1c : decide (m < l0.length) = true := decide_eq_true c1
      have p1 : (0 : Int) ≤ (m : Int) := by omega
      have hw1 : (m : Int) + 1 ≤ 9223372036854775807 := by have := HL.out; omega
      replace p1 := eq_true p1
      replace q1 := eq_true q1
      clear c1
      go_wp2_with (go_at_call 24; refine (laws_markIntS.calls kf oki _ row kk _ _ w0 wr HB.out HRo.out HF.out).mono ?_; rintro e w2 ⟨rfl, hy, hb, hkp⟩; have HS := Aside0.mk (Kd.H_back (Kd.H_kept HHo.out hkp (fun _ _ hn => hn)) (x' := s2) ⟨_, rfl, Kd.R_reok rfl hy (fun k_ e_ => HRo.out.1 k_ e_)⟩ (fun _ hk => hk)); have HB2 := Aside0.mk hb; have HK2 : Aside0 (Kept w w2 (fun k_ => P0_ k_)) := ⟨⟨Nat.le_trans HK.out.1 hkp.1, fun i hi hn => (hkp.2 i (Nat.lt_of_lt_of_le hi HK.out.1) (fun ho => (HOk.out i ho).1.elim hn (fun h3 => by omega))).trans (HK.out.2 i hi hn)⟩⟩; clear hy hb hkp)
      go_roundg (l0.length - m)
      case measure => have := HK1.out; have := HM.out; omega
      case rel => exact ⟨m + 1, _, done ++ [s2], by first | rfl | (simp; done) | go_num, rfl, ⟨by have := of_eq_true q1; omega⟩, ⟨by have := of_eq_true q1; omega⟩, ⟨by rw [List.length_append, HD.out]; rfl⟩, H2, ⟨by rw [← HE.out]; rw [← Int.toNat_natCast m]; exact HS.out⟩, HB2, HK2⟩
    · have q1 : ¬ (m : Int) < (l0.length : Int) := by omega
      have c1b : decide ((m : Int) < (l0.length : Int)) = false := decide_eq_false q1
      have c1c : decide (m < l0.length) = false := decide_eq_false c1
      have H3 : Aside0 (kk = r1 ∧ done ++ l0.drop m = r2) := ⟨by
        have e_ := HA.out
        rw [List.drop_eq_nil_of_le (show l0.length ≤ m by omega)] at e_ ⊢
        exact e_⟩
      clear HA c1 q1
      go_wp2
      go_ret
      exact ⟨by have e_ := H3.out.1; subst e_; rfl, by rw [← H3.out.2]; exact HO.out, HB.out, HK.out⟩
end Go.Proofs.Ytadjbmcfgjmhkaa.P
namespace Go.Proofs.Ytadjbmcfgjmhkaa.P
open Go.RowKit Go.Proofs.YtadjbmcfgjmhkaaW.PrintWords Go.Proofs.YtadjbmcfgjmhkaaW.PrintLast Go.Proofs.YtadjbmcfgjmhkaaW.PrintMore
set_option linter.unusedVariables false
set_option linter.unusedSimpArgs false

/-- What a row of rows leads to is none of a row of another type. -/
theorem S_off {W : World} {base : Nat} {ok : Nat → Prop} {u v : Value} {l : List (List Int)} (h : Kd.S (Kd.slice 3 (Kd.int .i64)) 39 W base ok u l) {base' : Nat} {ok' : Nat → Prop} {m : List S70} (h' : Kd.R k70 70 W base' ok' v m) :
    Kd.S (Kd.slice 3 (Kd.int .i64)) 39 W base (fun k => ok k ∧ some k ≠ v.ownBlock) u l := Kd.S_apart' h (Kd.R_typed h') (by decide)
set_option maxRecDepth 100000 in
set_option maxHeartbeats 2000000 in
theorem laws_markSpace.calls (P0_ P1_ : Nat → Prop) (u0 u1 : Value) (l0 : List (List Int)) (l1 : List S70) (a1 : Int) (w0 w : World) (hB : Below w0.heap.size w0 w) (ho0 : Kd.S (Kd.slice 3 (Kd.int .i64)) 39 w w0.heap.size P0_ u0 l0) (ho1 : Kd.R k70 70 w w0.heap.size P1_ u1 l1) :
    Calls Try.prog 31 #[.agg #[u0, u1], .int .i64 a1] w fun e w' => e = .returned (.int .i64 (mark2 l1 (markSS l0 a1).1).1) ∧ Kd.S (Kd.slice 3 (Kd.int .i64)) 39 w' w0.heap.size (fun k_ => (P0_ k_ ∨ w.heap.size ≤ k_)) u0 (markSS l0 a1).2 ∧ Kd.R k70 70 w' w0.heap.size (fun k_ => (P1_ k_ ∨ w.heap.size ≤ k_)) u1 (mark2 l1 (markSS l0 a1).1).2 ∧ Below w0.heap.size w0 w' ∧ Kept w w' (fun k_ => P0_ k_ ∨ P1_ k_) := by
  have HS0 := Aside0.mk (Kd.S_mono (Kd.S_bound (S_off ho0 ho1)) (fun k hk => (⟨hk.1.1, hk.1.2, hk.2.2.1⟩ : P0_ k ∧ some k ≠ u1.ownBlock ∧ k < w.heap.size)))
  have HR0 := Aside0.mk (Kd.R_mono (Kd.R_bound (Kd.R_tight2 rfl ho1)) (fun k hk => (⟨hk.1.1, hk.1.2, hk.2.2.1⟩ : some k = u1.ownBlock ∧ P1_ k ∧ k < w.heap.size)))
  have HB := Aside0.mk hB
  clear ho0 ho1 hB
  obtain ⟨A0, c0, e0⟩ := Kd.S_slice HS0.out
  obtain ⟨A1, c1, e1⟩ := Kd.R_slice HR0.out
  subst e0
  subst e1
  generalize hu1 : (Value.slice A1 l1.length c1).ownBlock = b1 at HS0 HR0
  have HU := Aside0.mk hu1
  clear hu1
  generalize hm : markSS l0 a1 = M
  obtain ⟨k1, m0⟩ := M
  have HM := Aside0.mk hm
  clear hm
  go_enter Try.func31, Try.ntmps31
  go_wp2_with (first
    | ((with_reducible refine gate_dst (N := 2) rfl ?_); refine ze 2 #[.slice A0 l0.length c0, .slice A1 l1.length c1] 46 ?_; intro gb hg w5 hbox hb; have HB1 := Aside0.mk (below_step HB.out hb); have HS1 := Aside0.mk (Kd.S_below HS0.out hb); have HR1 := Aside0.mk (Kd.R_below HR0.out hb); have HK1 := Aside0.mk hb; have BK := Aside0.mk hbox; have GE := Aside0.mk hg; clear hb hbox hg HB HS0 HR0; have hc0 := zy BK 0; have hc1 := zy BK 1; have hf0 := blk_frozen BK.out 0; have hf1 := blk_frozen BK.out 1)
    | (go_at_call 19; refine (laws_markIntSS.calls _ _ l0 a1 k1 m0 w0 w5 HB1.out HS1.out (by unfold laws_markIntSS.f; rw [HM.out])).mono ?_; rintro e w6 ⟨rfl, hy, hb6, hkp6⟩; have HB2 := Aside0.mk hb6; have HS2 := Aside0.mk hy; have HR2 := Aside0.mk (Kd.R_kept HR1.out hkp6 (fun k hk hs => hs.2.1 hk.1)); have HK2 := Aside0.mk hkp6; have BK2 := Aside0.mk (blk_kept BK.out hkp6 (fun hs => by have := hs.2.2; have := GE.out; omega)); clear hy hb6 hkp6 hc0 hc1 hf0 hf1; have hc0 := zy BK2 0; have hc1 := zy BK2 1; have hf0 := blk_frozen BK2.out 0; have hf1 := blk_frozen BK2.out 1)
    | (go_at_call 47; refine (laws_markIntA2S.calls _ _ l1 k1 _ _ w0 w6 HB2.out HR2.out rfl).mono ?_; rintro e w7 ⟨rfl, hy, hb7, hkp7⟩; have HB3 := Aside0.mk hb7; have HR3 := Aside0.mk hy; have HS3 := Aside0.mk (Kd.S_kept HS2.out hkp7 (fun k hk hs => hk.elim (fun h => h.2.1 hs.1) (fun h => by have := hs.2.2; have := HK1.out.size; omega))); have HK3 := Aside0.mk hkp7; clear hy hb7 hkp7))
  go_ret
  refine ⟨rfl, Kd.S_mono HS3.out (fun k hk => hk.elim (fun h => .inl h.1) (fun h => .inr (Nat.le_trans HK1.out.size h))), Kd.R_mono HR3.out (fun k hk => hk.elim (fun h => .inl h.2.1) (fun h => .inr (Nat.le_trans (Nat.le_trans HK1.out.size HK2.out.1) h))), HB3.out, Nat.le_trans (Nat.le_trans HK1.out.size HK2.out.1) HK3.out.1, fun i hi hn => ?_⟩
  have h1 := HK1.out.block i hi
  have h5 : i < w5.heap.size := Nat.lt_of_lt_of_le hi HK1.out.size
  have h2 := HK2.out.2 i h5 (fun hs => hn (.inl hs.1))
  have h3 := HK3.out.2 i (Nat.lt_of_lt_of_le h5 HK2.out.1) (fun hs => hn (.inr hs.2.1))
  exact h3.trans (h2.trans h1)
/-- The same, with the result under names. -/
def laws_markSpace.f (l0 : List (List Int)) (l1 : List S70) (a1 : Int) : Option (Int × List (List Int) × List S70) := some ((mark2 l1 (markSS l0 a1).1).1, (markSS l0 a1).2, (mark2 l1 (markSS l0 a1).1).2)
theorem laws_markSpace.callsf (P0_ P1_ : Nat → Prop) (u0 u1 : Value) (l0 : List (List Int)) (l1 : List S70) (a1 : Int) (r1 : Int) (r2 : List (List Int)) (r3 : List S70) (w0 w : World) (hB : Below w0.heap.size w0 w) (ho0 : Kd.S (Kd.slice 3 (Kd.int .i64)) 39 w w0.heap.size P0_ u0 l0) (ho1 : Kd.R k70 70 w w0.heap.size P1_ u1 l1) (h : laws_markSpace.f l0 l1 a1 = some (r1, r2, r3)) :
    Calls Try.prog 31 #[.agg #[u0, u1], .int .i64 a1] w fun e w' => e = .returned (.int .i64 r1) ∧ Kd.S (Kd.slice 3 (Kd.int .i64)) 39 w' w0.heap.size (fun k_ => (P0_ k_ ∨ w.heap.size ≤ k_)) u0 r2 ∧ Kd.R k70 70 w' w0.heap.size (fun k_ => (P1_ k_ ∨ w.heap.size ≤ k_)) u1 r3 ∧ Below w0.heap.size w0 w' ∧ Kept w w' (fun k_ => P0_ k_ ∨ P1_ k_) := by
  have h' := Option.some.inj h
  injection h' with h1 h2
  injection h2 with h2 h3
  subst h1; subst h2; subst h3
  exact laws_markSpace.calls P0_ P1_ u0 u1 l0 l1 a1 w0 w hB ho0 ho1
end Go.Proofs.Ytadjbmcfgjmhkaa.P
namespace Go.Proofs.Ytadjbmcfgjmhkaa.P
open Go.RowKit Go.Proofs.YtadjbmcfgjmhkaaW.PrintWords Go.Proofs.YtadjbmcfgjmhkaaW.PrintLast Go.Proofs.YtadjbmcfgjmhkaaW.PrintMore
attribute [local go_sem] max2_int min2_int max_two min_two max_three min_three max_four min_four   -- for this text's walks alone
set_option linter.unusedVariables false
set_option linter.unusedSimpArgs false

/-! ### laws_heldIntS: function 25 -/
def laws_heldIntS.l0 : Nat → List Int → Int → Int → Option (Int)
 | 0, _, _, _ => none
 | k + 1, x0, x1, x5 => if x5 < (x0.length : Int) then (if 0 ≤ x5 then (if (rd x0 x5) = x1 then (laws_heldIntS.l0 k x0 (wrap64 (x1 + 1)) (wrap64 (x5 + 1))) else (some (-1))) else (none)) else (some x1)
def laws_heldIntS.f (k : Nat) (l0 : List Int) (a1 : Int) : Option (Int) := laws_heldIntS.l0 k l0 a1 0
set_option maxHeartbeats 8000000 in
set_option maxRecDepth 100000 in
theorem laws_heldIntS.calls (k : Nat) (A0 : Option Addr) (c0 : Nat) (l0 : List Int) (a1 : Int) (r : Int) (w : World) (hr0 : Kd.C (Kd.int .i64) w A0 l0.length l0) (hc0 : l0.length ≤ c0) (h : laws_heldIntS.f k l0 a1 = some r) :
 Calls Try.prog 25 #[.slice A0 l0.length c0, .int .i64 a1] w fun e w' => e = .returned (.int .i64 r) ∧ Drawn0 w w' := by
 have HR0 := Aside0.mk hr0
 have HC0 := Aside0.mk hc0
 clear hr0 hc0
 have H : (laws_heldIntS.l0 k l0 a1 0) = some r := h
 clear h
 have H' := Aside0.mk H
 clear H
 go_enter Try.func25, Try.ntmps25
 go_wp2
 go_loopg [1, 5] k (fun kq v1 v5 w' => ∃ (x1_1 : Int) (x5_1 : Int), v1 = .int .i64 x1_1 ∧ v5 = .int .i64 x5_1 ∧ Aside0 (laws_heldIntS.l0 kq l0 x1_1 x5_1 = some r) ∧ Aside0 (kq ≤ k) ∧ Drawn0 w w')
 case atStart => exact ⟨(a1), (0), (by first | rfl | (simp; done) | (simp [*]; done)), (by first | rfl | (simp; done) | (simp [*]; done)), H', ⟨Nat.le_refl _⟩, by repeat (first | exact Drawn0.refl _ | apply Drawn0.step)⟩
 case round =>
  clear H'
  try clear c2
  try clear p2
  obtain ⟨x1_1, x5_1, rfl, rfl, HA, HK1, ⟨m1, rfl⟩⟩ := hrel
  cases gk with
  | zero => exact absurd HA.out (by simp [laws_heldIntS.l0])
  | succ k1 =>
   have H := HA.out
   clear HA
   simp only [laws_heldIntS.l0] at H
   by_cases c3 : x5_1 < (l0.length : Int)
   · rw [if_pos c3] at H
     have c3b0 := decide_eq_true c3
     clear c3
     by_cases c4 : 0 ≤ x5_1
     · rw [if_pos c4] at H
       have c4b0 := decide_eq_true c4
       clear c4
       by_cases c5 : (rd l0 x5_1) = x1_1
       · rw [if_pos c5] at H
         have c5b0 : ((rd l0 x5_1) == x1_1) = true := beq_iff_eq.mpr c5
         have c5b1 : ((rd l0 x5_1) != x1_1) = false := bne_eq_false_iff_eq.mpr c5
         clear c5
         have H' := Aside0.mk H
         clear H
         have p135 : 0 ≤ (x5_1 : Int) := of_decide_eq_true zA
         have q135 : x5_1 < (l0.length : Int) := of_decide_eq_true zA
         obtain ⟨ad135, e135, hx135_0⟩ := Kd.at_int HR0.out x5_1 p135 q135
         cases e135
         replace p135 := eq_true p135
         replace q135 := eq_true q135
         go_wp2
         go_roundg k1
         case measure => have := HK1.out; omega
         case rel => exact ⟨(wrap64 (x1_1 + 1)), (wrap64 (x5_1 + 1)), (by first | rfl | (simp; done) | (simp [*]; done)), (by first | rfl | (simp; done) | (simp [*]; done)), H', ⟨by have := HK1.out; omega⟩, by repeat (first | exact Drawn0.refl _ | apply Drawn0.step)⟩
       · rw [if_neg c5] at H
         have c5b0 : ((rd l0 x5_1) == x1_1) = false := beq_eq_false_iff_ne.mpr c5
         have c5b1 : ((rd l0 x5_1) != x1_1) = true := bne_iff_ne.mpr c5
         obtain rfl := Option.some.inj H
         have p135 : 0 ≤ (x5_1 : Int) := of_decide_eq_true zA
         have q135 : x5_1 < (l0.length : Int) := of_decide_eq_true zA
         obtain ⟨ad135, e135, hx135_0⟩ := Kd.at_int HR0.out x5_1 p135 q135
         cases e135
         replace p135 := eq_true p135
         replace q135 := eq_true q135
         go_wp2
         go_ret
         exact ⟨by first | rfl | (simp; done) | (simp [*]; done), by repeat (first | exact Drawn0.refl _ | apply Drawn0.step)⟩
     · rw [if_neg c4] at H
       exact absurd H (by simp)
   · rw [if_neg c3] at H
     have c3b0 : decide (x5_1 < (l0.length : Int)) = false := decide_eq_false c3
     clear c3
     obtain rfl := Option.some.inj H
     go_wp2
     go_ret
     exact ⟨by first | rfl | (simp; done) | (simp [*]; done), by repeat (first | exact Drawn0.refl _ | apply Drawn0.step)⟩

end Go.Proofs.Ytadjbmcfgjmhkaa.P
