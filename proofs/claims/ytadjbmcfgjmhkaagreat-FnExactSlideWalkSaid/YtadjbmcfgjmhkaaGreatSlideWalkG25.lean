/- impl's spaceOf: the space of some states, in order, with the steps of which something is so; for every world. -/
import Derived.Test.YtadjbmcfgjmhkaaGreatSlideWalkG24
namespace Go.Proofs.YtadjbmcfgjmhkaaGreat.P
open Go.RowKit YtadjbmcfgjmhkaaGreatW.PrintWords Go.Proofs.YtadjbmcfgjmhkaaGreatW.PrintLast Go.Proofs.YtadjbmcfgjmhkaaGreatW.PrintMore
set_option maxRecDepth 100000
set_option maxHeartbeats 8000000
set_option linter.unusedVariables false
set_option linter.unusedSimpArgs false
def iK (g : Nat) (bs cb : Array Value) (st : List Int → List Int → Bool) (ls : List (List Int)) (w : World) : Prop :=
 ∀ (W : World) (x y : List Int) (A B : Option Addr) (c c' : Nat), x ∈ ls → y ∈ ls → Below w.heap.size w W → Kd.C (Kd.int .i64) W A x.length x → x.length ≤ c → Kd.C (Kd.int .i64) W B y.length y → y.length ≤ c' →
  Calls Tryz.prog g (bs ++ (#[.slice A x.length c, .slice B y.length c'] ++ cb)) W fun e w' => e = .returned (.bool (st x y)) ∧ Below W.heap.size W w'
def bY (st : List Int → List Int → Bool) (a : List Int) (i : Nat) : Nat → List (List Int) → List S69
 | _, [] => []
 | k, b :: t => (if st a b = true then [⟨(i : Int), (k : Int)⟩] else []) ++ bY st a i (k + 1) t
def bg (st : List Int → List Int → Bool) : Nat → List (List Int) → List S69
 | _, [] => []
 | i, a :: t => bY st a i (i + 1) t ++ bg st (i + 1) t
theorem oN (st : List Int → List Int → Bool) (a : List Int) (i : Nat) (t : List (List Int)) : ∀ k, (bY st a i k t).length ≤ t.length := by
 induction t with
 | nil => intro k; exact au _
 | cons b t ih =>
  intro k
  have := ih (k + 1)
  simp only [bY, List.length_append, List.length_cons]
  split <;> simp only [List.length_nil, List.length_singleton] <;> omega
theorem j7 (st : List Int → List Int → Bool) (t : List (List Int)) : ∀ i, (bg st i t).length ≤ t.length * t.length := by
 induction t with
 | nil => intro i; exact au _
 | cons b t ih =>
  intro i
  have h1 := ih (i + 1)
  have h2 := oN st b i t (i + 1)
  simp only [bg, List.length_append, List.length_cons]
  have : (t.length + 1) * (t.length + 1) = t.length * t.length + t.length + t.length + 1 := by rw [Nat.add_mul, Nat.mul_add]; omega
  omega
theorem kX {w : World} {base : Nat} {ok : Nat → Prop} {g n cap m c : Nat} {A : Option Addr} {xs : List (List Int)} (h : Kd.S (Kd.slice 3 (Kd.int .i64)) 25 w base ok (.slice (some ⟨g, 0, none⟩) n cap) xs) (q : Nat) (hq : q < n) (hc : w.cell? ⟨g, q, none⟩ = some (.slice A m c)) :
  m = (xs.getD q []).length ∧ m ≤ c ∧ Kd.C (Kd.int .i64) w A (xs.getD q []).length (xs.getD q []) := by
 obtain ⟨cs, _, hM, hcc⟩ := Kd.S_get h ([] : List Int) (q : Int) (by omega) (by omega)
 obtain ⟨u, rfl, hR⟩ := hM
 have h2 := hcc 0 u rfl
 have e : (⟨g, 0, none⟩ : Addr).add ((q : Int).toNat * (Kd.slice 3 (Kd.int .i64)).sz + 0) = ⟨g, q, none⟩ := by
  show (⟨g, 0, none⟩ : Addr).add ((q : Int).toNat * 1 + 0) = _
  rw [Int.toNat_natCast, Nat.mul_one, Nat.add_zero, bI]
 rw [e, hc] at h2
 obtain rfl := ao h2
 rw [Int.toNat_natCast] at hR
 obtain ⟨h3, h4, h5⟩ := Kd.R_reads' hR
 exact ⟨h3, h4, h5⟩
theorem kW {w : World} {base : Nat} {ok : Nat → Prop} {g n cap : Nat} {xs : List (List Int)} (h : Kd.S (Kd.slice 3 (Kd.int .i64)) 25 w base ok (.slice (some ⟨g, 0, none⟩) n cap) xs) (q : Nat) (hq : q < n) :
  ∃ A c, w.cell? ⟨g, q, none⟩ = some (.slice A (xs.getD q []).length c) := by
 obtain ⟨cs, _, hM, hcc⟩ := Kd.S_get h ([] : List Int) (q : Int) (by omega) (by omega)
 obtain ⟨u, rfl, hR⟩ := hM
 have h2 := hcc 0 u rfl
 have e : (⟨g, 0, none⟩ : Addr).add ((q : Int).toNat * (Kd.slice 3 (Kd.int .i64)).sz + 0) = ⟨g, q, none⟩ := by
  show (⟨g, 0, none⟩ : Addr).add ((q : Int).toNat * 1 + 0) = _
  rw [Int.toNat_natCast, Nat.mul_one, Nat.add_zero, bI]
 rw [e] at h2
 rw [Int.toNat_natCast] at hR
 obtain ⟨A, c, rfl, _⟩ := Kd.R_reads hR
 exact ⟨A, c, h2⟩
set_option maxHeartbeats 4000000 in
theorem ob (g : Nat) (bs cb : Array Value) (eg : ∀ (args : Array Value) (w : World), (callFunc g args).run Tryz.prog w = .ok (.enter g args) w) (st : List Int → List Int → Bool) (u : Value) (ls : List (List Int)) (w ws : World) (hB : Below w.heap.size w ws)
  (ho : Kd.S (Kd.slice 3 (Kd.int .i64)) 25 ws w.heap.size (fun _ => True) u ls) (hlen : ls.length ≤ 1024) (hst : iK g bs cb st ls w) :
  Calls Tryz.prog 62 #[u, .func (.func g) bs cb] ws fun e w' => ∃ v0_ v1_ : Value, e = .returned (.agg #[v0_, v1_]) ∧ Kd.S (Kd.slice 3 (Kd.int .i64)) 25 w' w.heap.size (fun _ => True) v0_ (bJ ls) ∧ Kd.R k69 69 w' w.heap.size (fun _ => True) v1_ (bg st 0 (bJ ls)) ∧ Below w.heap.size w w' := by
 have hu := Tryz.underlying52
 obtain ⟨Au, cu, eu⟩ := Kd.S_slice ho
 subst eu
 have HS := zM ho
 have HB := zM hB
 have HL := zM hlen
 have HT := zM hst
 clear ho hB hlen hst
 go_enter Tryz.func62, Tryz.ntmps62
 go_wp2_with (first
  | ((with_reducible refine ap (N := 4) rfl ?_); refine ze 4 #[.slice none 0 0, .slice none 0 0] 52 ?_; intro g4 hg w1 hbox hb; have BK4 := zM hbox; replace HS := zM (Kd.S_below HS.out hb); have HG4 := zM (show w.heap.size ≤ g4 by rw [hg]; exact ai HB.out); replace HB := zM (ah HB.out hb); clear hg hbox hb)
  | ((with_reducible refine ap (N := 5) rfl ?_); refine ze 5 #[.slice none 0 0, .slice none 0 0] 52 ?_; intro g5 hg w2 hbox hb; have BK5 := zM hbox; replace HS := zM (Kd.S_below HS.out hb); have HG5 := zM (show w.heap.size ≤ g5 by rw [hg]; exact ai HB.out); replace HB := zM (ah HB.out hb); have NB := zM (show g4 ≠ g5 by rw [hg]; exact Nat.ne_of_lt (aA BK4.out)); replace BK4 := zM (bo BK4.out hb); clear hg hbox hb; have hc0 := zy BK5 0; have hc1 := zy BK5 1; have hf0 := ae BK5.out 0; have hf1 := ae BK5.out 1)
  | (go_at_call 86; refine kv BK5 HB HG5.out ?_; intro w3 BKn hk HBn; replace HS := zM (Kd.S_mono (ok' := fun _ => True) (Kd.S_kept (Kd.S_types HS.out BK5.out (by decide)) hk (fun k hk2 e => hk2.2 e)) (fun _ _ => trivial)); replace BK4 := zM (gQ BK4.out hk NB.out); clear BK5 HB hk; have BK5 := BKn; have HB := HBn; clear BKn HBn; refine (sortLists.calls (fun k => (True ∧ k ≠ g5) ∧ k ≠ g4) _ ls w _ HB.out (Kd.S_types (Kd.S_types HS.out BK5.out (by decide)) BK4.out (by decide)) (by have := HL.out; omega)).mono ?_; rintro e w4 ⟨rfl, ho, hb, hk⟩; clear HS; have HS := zM (Kd.S_mono (ok' := fun _ => True) ho (fun _ _ => trivial)); replace BK4 := zM (gQ BK4.out hk (fun h => h.2 rfl)); replace BK5 := zM (gQ BK5.out hk (fun h => h.1.2 rfl)); replace HB := zM hb; clear ho hb hk; replace hc0 := zy BK5 0; replace hc1 := zy BK5 1; replace hf0 := ae BK5.out 0; replace hf1 := ae BK5.out 1))
 have HTm := zM (fun x => (hG ls x).1)
 have HTl := zM (kP ls)
 obtain ⟨T, hT⟩ : ∃ T, T = bJ ls := ⟨_, rfl⟩
 rw [← hT] at HS HTm HTl
 have HTT := zM hT
 clear hT
 have HR0 := zM (Kd.R_nil k69 69 w4 w.heap.size (fun _ => True))
 have HSz := zM (show (bg st 0 T).length ≤ 1048576 by
  have h1 := j7 st T 0
  have h2 := HL.out
  have h3 := HTl.out
  have h4 : T.length * T.length ≤ 1024 * 1024 := Nat.mul_le_mul (by omega) (by omega)
  omega)
 generalize hRR : bg st 0 T = RR at HSz
 have HRR := zM hRR
 clear hRR
 go_loopg [18] (ls.length + 1) (fun kq v18 w' => ∃ (i : Nat) (Q : List S69) (v1 : Value), v18 = .int .i64 (i : Int) ∧ Aside0 (i ≤ ls.length) ∧ Aside0 (kq = ls.length - i + 1) ∧ Aside0 (Q ++ bg st i (T.drop i) = RR) ∧ Aside0 (Kd.S (Kd.slice 3 (Kd.int .i64)) 25 w' w.heap.size (fun _ => True) (.slice Au ls.length cu) T) ∧ Aside0 (Kd.R k69 69 w' w.heap.size (fun _ => True) v1 Q) ∧ Aside0 (w'.heap[g5]? = some (.cells #[.slice Au ls.length cu, v1] 52 (0, 0))) ∧ Aside0 (w'.heap[g4]? = some (.cells #[.slice none 0 0, .slice none 0 0] 52 (0, 0))) ∧ Aside0 (Below w.heap.size w w'))
 case atStart => exact ⟨0, [], .slice none 0 0, by first | rfl | (simp; done), ⟨Nat.zero_le _⟩, ⟨by omega⟩, ⟨by rw [List.drop_zero, List.nil_append]; exact HRR.out⟩, HS, HR0, BK5, BK4, HB⟩
 case round =>
  clear HS HR0 BK5 BK4 HB hc0 hc1 hf0 hf1
  obtain ⟨i, Q, v1, rfl, HI, HK1, HQ, HS, HR, BK5, BK4, HB⟩ := hrel
  have hc0 := zy BK5 0
  have hc1 := zy BK5 1
  have hf0 := ae BK5.out 0
  have hf1 := ae BK5.out 1
  by_cases c1 : i < ls.length
  · obtain ⟨gS, capS, eS, gbS, glS, cS, hcS⟩ := Kd.S_form HS.out (by have := HTl.out; omega)
    injection eS with eA eN ec
    subst eA; subst ec
    clear eN
    have BKS := zM hcS
    obtain ⟨Ao, co, eo⟩ := Kd.R_slice HR.out
    subst eo
    obtain ⟨A0, c0, hx0⟩ := kW HS.out i c1
    have HX0 := zM ((am BKS.out i).symm.trans hx0)
    have HCU := zM (show ls.length ≤ cu from (Kd.S_reads' HS.out).2.1)
    have HTi := zM (show T.getD i [] ∈ ls by
      have := HTl.out
      rw [List.getD_eq_getElem?_getD, List.getElem?_eq_getElem (by omega), Option.getD_some]
      exact HTm.out _ (List.getElem_mem _))
    have HQ2 := zM (show Q ++ bY st (T.getD i []) i (i + 1) (T.drop (i + 1)) ++ bg st (i + 1) (T.drop (i + 1)) = RR by
      have := HTl.out
      have hi : i < T.length := by omega
      have h1 := HQ.out
      rw [List.drop_eq_getElem_cons hi] at h1
      rw [List.getD_eq_getElem?_getD, List.getElem?_eq_getElem hi, Option.getD_some, List.append_assoc]
      exact h1)
    generalize hTa : T.getD i [] = a at hx0 HX0 HTi HQ2
    have HTa := zM hTa
    clear hTa
    have HLN := zM HTl.out
    have q1 : (i : Int) < (ls.length : Int) := by omega
    have c1b : decide ((i : Int) < (ls.length : Int)) = true := ag q1
    have c1c : decide (i < ls.length) = true := ag c1
    have p1 : (0 : Int) ≤ (i : Int) := by omega
    have hw1 : (i : Int) + 1 ≤ 9223372036854775807 := by have := HL.out; omega
    obtain ⟨p, hp⟩ : ∃ p : Nat, p = i + 1 := ⟨_, rfl⟩
    have HPp := zM hp
    have hpi : (i : Int) + 1 = (p : Int) := by omega
    have hw2 : ((p : Int) ≤ (ls.length : Int)) = True := eq_true (by omega)
    have hw3 : (p ≤ ls.length) = True := eq_true (by omega)
    have hw4 : (p ≤ cu) = True := eq_true (by have := HCU.out; omega)
    have hw5 : (0 ≤ (p : Int)) = True := eq_true (by omega)
    obtain ⟨D, hD⟩ : ∃ D : Nat, ls.length - p = D := ⟨_, rfl⟩
    have HDD := zM hD
    have HPn := zM (show p ≤ ls.length by omega)
    have hpw : wrap64 (p : Int) = (p : Int) := b5 (by omega) (by have := HL.out; omega)
    obtain ⟨B, hB⟩ : ∃ B : Option Addr, (if cu = p then some (⟨gS, 0, none⟩ : Addr) else some ⟨gS, p, none⟩) = B := ⟨_, rfl⟩
    clear hp hw1
    have HC1 := zM c1
    replace p1 := eq_true p1
    replace q1 := eq_true q1
    clear HQ hcS gbS glS c1
    go_wp2
    go_loopg [29] (D + 1) (fun kq v29 w' => ∃ (j : Nat) (Q2 : List S69) (v1 : Value), v29 = .int .i64 (j : Int) ∧ Aside0 (j ≤ D) ∧ Aside0 (kq = D - j + 1) ∧ Aside0 (Q2 ++ bY st a i (p + j) (T.drop (p + j)) ++ bg st (i + 1) (T.drop (i + 1)) = RR) ∧ Aside0 (Kd.S (Kd.slice 3 (Kd.int .i64)) 25 w' w.heap.size (fun _ => True) (.slice (some ⟨gS, 0, none⟩) ls.length cu) T) ∧ Aside0 (Kd.R k69 69 w' w.heap.size (fun _ => True) v1 Q2) ∧ Aside0 (w'.heap[g5]? = some (.cells #[.slice (some ⟨gS, 0, none⟩) ls.length cu, v1] 52 (0, 0))) ∧ Aside0 (w'.heap[g4]? = some (.cells #[.slice none 0 0, .slice none 0 0] 52 (0, 0))) ∧ Aside0 (w'.heap[gS]? = some (.cells cS 25 (0, 0))) ∧ Aside0 (Below w.heap.size w w'))
    case atStart => exact ⟨0, Q, _, by first | rfl | (simp; done), ⟨Nat.zero_le _⟩, ⟨by omega⟩, ⟨by rw [Nat.add_zero, HPp.out]; exact HQ2.out⟩, HS, HR, BK5, BK4, BKS, HB⟩
    case round =>
      clear HS HR BK5 BK4 BKS HB hc0 hc1 hf0 hf1 hx0 HQ2
      obtain ⟨j, Q2, v1, rfl, HJ, HK2, HQ2, HS, HR, BK5, BK4, BKS, HB⟩ := hrel
      obtain ⟨Ao2, co2, eo2⟩ := Kd.R_slice HR.out
      subst eo2
      have hc0 := zy BK5 0
      have hc1 := zy BK5 1
      have hf0 := ae BK5.out 0
      have hf1 := ae BK5.out 1
      by_cases c2 : j < D
      · have hBv : B = some ⟨gS, p, none⟩ := by
         have := HDD.out
         have := HCU.out
         rw [← hB, if_neg (by omega)]
        clear hB
        subst hBv
        obtain ⟨q, hq⟩ : ∃ q : Nat, p + j = q := ⟨_, rfl⟩
        have hqn : q < ls.length := by have := HDD.out; omega
        obtain ⟨A1, c1', hx1⟩ := kW HS.out q hqn
        have HX1 := zM hx1
        obtain ⟨la1, la2, la3⟩ := kX HS.out i HC1.out ((am BKS.out i).trans HX0.out)
        obtain ⟨lb1, lb2, lb3⟩ := kX HS.out q hqn hx1
        rw [HTa.out] at la3
        have HTb := zM (show T.getD q [] ∈ ls by
         have := HTl.out
         rw [List.getD_eq_getElem?_getD, List.getElem?_eq_getElem (by omega), Option.getD_some]
         exact HTm.out _ (List.getElem_mem _))
        have HQ3 := zM (show Q2 ++ (if st a (T.getD q []) = true then [(⟨(i : Int), (q : Int)⟩ : S69)] else []) ++ bY st a i (p + (j + 1)) (T.drop (p + (j + 1))) ++ bg st (i + 1) (T.drop (i + 1)) = RR by
         have := HTl.out
         have hi : q < T.length := by omega
         have h1 := HQ2.out
         rw [hq, List.drop_eq_getElem_cons hi] at h1
         simp only [bY] at h1
         rw [List.getD_eq_getElem?_getD, List.getElem?_eq_getElem hi, Option.getD_some, show p + (j + 1) = q + 1 by omega, List.append_assoc Q2]
         exact h1)
        generalize T.getD q [] = b at hx1 HX1 lb1 lb2 lb3 HTb HQ3
        have HCa := zM la3
        have HCb := zM lb3
        have HLa := zM la2
        have HLb := zM lb2
        have HQl := zM (show Q2.length < 1048577 by
         have h1 := congrArg List.length HQ3.out
         simp only [List.length_append] at h1
         have := HSz.out
         omega)
        have q2 : (j : Int) < (D : Int) := by omega
        have c2b : decide ((j : Int) < (D : Int)) = true := ag q2
        have c2c : decide (j < D) = true := ag c2
        have p2 : (0 : Int) ≤ (j : Int) := by omega
        have hw6 : (j : Int) + 1 ≤ 9223372036854775807 := by have := HL.out; omega
        have hqi : (p : Int) + (j : Int) = (q : Int) := by omega
        have hqw : wrap64 (q : Int) = (q : Int) := b5 (by omega) (by have := HL.out; omega)
        have HJ2 := zM c2
        have hf2 := ae BKS.out
        replace p2 := eq_true p2
        replace q2 := eq_true q2
        have NS := zM (show gS ≠ g5 by
         intro e
         have h := BKS.out
         rw [e, BK5.out] at h
         injection h with h
         injection h with _ h
         exact absurd h (by decide))
        clear la1 la2 la3 lb1 lb2 lb3 c2 hqn HQ2 hf2
        cases hst : st a b with
        | true =>
         rw [hst, if_pos rfl] at HQ3
         have HSt := zM hst
         clear hst
         obtain ⟨Q5, hQ5⟩ : ∃ Q5, Q5 = Q2 ++ [(⟨(i : Int), (q : Int)⟩ : S69)] := ⟨_, rfl⟩
         rw [← hQ5] at HQ3
         have HQ5 := zM hQ5
         clear hQ5
         go_wp2_with (first
          | (go_at_fn g; refine (HT.out _ a b A0 A1 c0 c1' HTi.out HTb.out HB.out HCa.out HLa.out HCb.out HLb.out).mono ?_; rw [HSt.out]; rintro e w6 ⟨rfl, hb⟩; replace HS := zM (Kd.S_below HS.out hb); replace HR := zM (Kd.R_below HR.out hb); replace BK5 := zM (bo BK5.out hb); replace BK4 := zM (bo BK4.out hb); replace BKS := zM (bo BKS.out hb); replace HB := zM (ah HB.out hb); clear hb; replace hc0 := zy BK5 0; replace hc1 := zy BK5 1; replace hf0 := ae BK5.out 0; replace hf1 := ae BK5.out 1)
          | ((with_reducible refine br (b := .append) (xs := #[.tmp 39, .tmp 46]) rfl ?_); at_builtin; refine Kd.R_append k69 (w0 := w) w.heap.size rfl (.tmp 39) (.tmp 46) 22 69 (.agg #[(.int .i64 0), (.int .i64 0)]) 16 rfl Tryz.underlying22 jz rfl (by decide) (by omega) (.slice Ao2 Q2.length co2) Q2 (⟨(i : Int), (q : Int)⟩ : S69) [.int .i64 (i : Int), .int .i64 (q : Int)] (fun _ => True) (fun _ => False) rfl rfl ?aP (fun _ hk => hk.elim) ?aF ?aO ?aB ?aS ?aL ?_; (case aP => exact gz _ _ _ (⟨(i : Int), (q : Int)⟩ : S69)); (case aB => exact zB); (case aF => exact (fun _ _ => trivial)); (case aO => exact (zR HR.out)); (case aS => exact (ai zB)); (case aL => have := HQl.out; omega); intro v9 w9 ho hb hg hat; rw [← HQ5.out] at ho; obtain ⟨A9, c9, e9⟩ := Kd.R_slice ho; subst e9; replace HS := zM (Kd.S_over' HS.out (Kd.R_typed HR.out) (by decide) hg); replace BK5 := zM (bc (zK BK5.out) hg (Kd.R_ne HR.out BK5.out (by decide))); replace BK4 := zM (bc (zK BK4.out) hg (Kd.R_ne HR.out BK4.out (by decide))); replace BKS := zM (bc (zK BKS.out) hg (Kd.R_ne HR.out BKS.out (by decide))); replace HB := zM hb; replace HR := zM ho; clear ho hb hg hat; replace hc0 := zy BK5 0; replace hc1 := zy BK5 1; replace hf0 := ae BK5.out 0; replace hf1 := ae BK5.out 1))
         go_roundg (D - j)
         case measure => have := HK2.out; have := HJ2.out; omega
         case rel => exact ⟨j + 1, Q5, _, by first | rfl | (simp; done) | go_num, ⟨by have := HJ2.out; omega⟩, ⟨by have := HJ2.out; omega⟩, HQ3, ⟨Kd.S_mono (Kd.S_far (p := ⟨g5, 1, none⟩) (Kd.S_types HS.out BK5.out (by decide)) (fun _ hk => hk.2) _) (fun _ _ => trivial)⟩, ⟨Kd.R_mono (Kd.R_far (p := ⟨g5, 1, none⟩) (Kd.R_types HR.out BK5.out (by decide)) (fun _ hk => hk.2) _) (fun _ _ => trivial)⟩, ⟨aD (cs := #[.slice (some ⟨gS, 0, none⟩) ls.length cu, .slice Ao2 Q2.length co2]) BK5.out 1 _ rfl⟩, ⟨bx BK4.out NB.out _⟩, ⟨bx BKS.out NS.out _⟩, ⟨bz HB.out HG5.out⟩⟩
        | false =>
         rw [hst, if_neg (by decide), List.append_nil] at HQ3
         have HSt := zM hst
         clear hst
         go_wp2_with (go_at_fn g; refine (HT.out _ a b A0 A1 c0 c1' HTi.out HTb.out HB.out HCa.out HLa.out HCb.out HLb.out).mono ?_; rw [HSt.out]; rintro e w6 ⟨rfl, hb⟩; replace HS := zM (Kd.S_below HS.out hb); replace HR := zM (Kd.R_below HR.out hb); replace BK5 := zM (bo BK5.out hb); replace BK4 := zM (bo BK4.out hb); replace BKS := zM (bo BKS.out hb); replace HB := zM (ah HB.out hb); clear hb; replace hc0 := zy BK5 0; replace hc1 := zy BK5 1; replace hf0 := ae BK5.out 0; replace hf1 := ae BK5.out 1)
         go_roundg (D - j)
         case measure => have := HK2.out; have := HJ2.out; omega
         case rel => exact ⟨j + 1, Q2, _, by first | rfl | (simp; done) | go_num, ⟨by have := HJ2.out; omega⟩, ⟨by have := HJ2.out; omega⟩, HQ3, HS, HR, BK5, BK4, BKS, HB⟩
      · have hj : j = D := by have := HJ.out; omega
        have c2b : decide ((j : Int) < (D : Int)) = false := ar (by omega)
        have c2c : decide (j < D) = false := ar c2
        have HQ4 := zM (show Q2 ++ bg st (i + 1) (T.drop (i + 1)) = RR by
         have h1 := HQ2.out
         have h2 := HTl.out
         have h3 := HDD.out
         have h4 := HPn.out
         rw [List.drop_eq_nil_of_le (show T.length ≤ p + j by omega)] at h1
         simpa [bY] using h1)
        clear c2 hj HQ2
        have hwi : (i : Int) + 1 ≤ 9223372036854775807 := by have := HC1.out; have := HL.out; omega
        go_wp2
        go_roundg (ls.length - i)
        case measure => have := HK1.out; have := HC1.out; omega
        case rel => exact ⟨i + 1, Q2, _, by first | rfl | exact congrArg (fun z : Nat => Value.int .i64 (z : Int)) HPp.out | (simp; done) | go_num, ⟨by have := HC1.out; omega⟩, ⟨by have := HC1.out; omega⟩, HQ4, HS, HR, BK5, BK4, HB⟩
  · have hi : i = ls.length := by have := HI.out; omega
    have c1b : decide ((i : Int) < (ls.length : Int)) = false := ar (by omega)
    have c1c : decide (i < ls.length) = false := ar c1
    have HF := zM (show Q = RR by
      have h1 := HQ.out
      have h2 := HTl.out
      rw [List.drop_eq_nil_of_le (by omega)] at h1
      simpa [bg] using h1)
    have hd0 := zy BK4 0
    have hd1 := zy BK4 1
    have he0 := ae BK4.out 0
    have he1 := ae BK4.out 1
    obtain ⟨Ao, co, eo⟩ := Kd.R_slice HR.out
    subst eo
    clear c1 hi HQ
    go_wp2
    (try simp only [Exit.inBlock, Exit.then])
    refine bodyPost_ret (results_cell_row rfl _ _ g4 52 #[.slice Au ls.length cu, .slice Ao Q.length co] (0, 0) _ rfl (aD (cs := #[.slice Au ls.length cu, .slice none 0 0]) (aD (cs := #[.slice none 0 0, .slice none 0 0]) BK4.out 0 _ rfl) 1 _ rfl) hu rfl (by kernel_rfl)) rfl ?_
    refine ⟨_, _, rfl, ?_, ?_, bz (bz HB.out HG4.out) HG4.out⟩
    · rw [← HTT.out]
      exact Kd.S_mono (Kd.S_far (p := ⟨g4, 1, none⟩) (Kd.S_far (p := ⟨g4, 0, none⟩) (Kd.S_types HS.out BK4.out (by decide)) (fun _ hk => hk.2) _) (fun _ hk => hk.2) _) (fun _ _ => trivial)
    · rw [← HTT.out, HRR.out, ← HF.out]
      exact Kd.R_mono (Kd.R_far (p := ⟨g4, 1, none⟩) (Kd.R_far (p := ⟨g4, 0, none⟩) (Kd.R_types HR.out BK4.out (by decide)) (fun _ hk => hk.2) _) (fun _ hk => hk.2) _) (fun _ _ => trivial)
theorem oy : ∀ b : Fin 256, dP b = some (((aI (aJ b) 8 0).length : Nat) : Int) := by decide +kernel
theorem kT {b : Int} (h0 : 0 ≤ b) (h1 : b < 256) : dP b = some (((aI (aJ b) 8 0).length : Nat) : Int) := by
 obtain ⟨i, rfl⟩ := dD (n := 256) h0 h1
 exact oy i
def eQ (e : List S69) (lo hi b : Int) : Bool := (decide (lo ≤ ((aI (aJ b) 8 0).length : Int)) && decide (((aI (aJ b) 8 0).length : Int) ≤ hi)) && !(e.any (dS b))
def gL (e : List S69) : Bool := e.all fun s => decide (0 ≤ s.f0) && decide (0 ≤ s.f1)
theorem qu (a : Int) (e : List S69) (b : Int) (h : gL e = true) : en a e b = some (!(e.any (dS b))) := by
 unfold en
 rw [if_pos]
 rw [List.all_eq_true]
 intro s hs
 have := List.all_eq_true.1 h s hs
 rw [Bool.and_eq_true, decide_eq_true_eq, decide_eq_true_eq] at this
 rw [ez this.1, ez this.2]
 rfl
theorem sY (n lo hi : Int) : dA n lo hi = some (decide (lo ≤ n) && decide (n ≤ hi)) := by
 unfold dA
 by_cases h : n ≥ lo
 · rw [if_pos h, ag (show lo ≤ n from h), Bool.true_and]
 · rw [if_neg h, ar (show ¬ lo ≤ n from h), Bool.false_and]
set_option maxHeartbeats 1000000 in
theorem rx (gl gh gg : Nat) (lo hi : Int) (a0 : Int) (A1 : Option Addr) (c1 : Nat) (l1 : List S69) (b : Int) (h0 : 0 ≤ b) (h1 : b < 256) (hok : gL l1 = true) (W : World) (hl : W.cell? ⟨gl, 0, none⟩ = some (.int .i64 lo)) (hh : W.cell? ⟨gh, 0, none⟩ = some (.int .i64 hi))
  (hg0 : W.cell? ⟨gg, 0, none⟩ = some (.int .i64 a0)) (hg1 : W.cell? ⟨gg, 1, none⟩ = some (.slice A1 l1.length c1)) (hr : Kd.C k69 W A1 l1.length l1) (hc : l1.length ≤ c1) :
  Calls Tryz.prog 98 (#[.int .u64 b] ++ #[.pointer (some ⟨gl, 0, none⟩), .pointer (some ⟨gh, 0, none⟩), .pointer (some ⟨gg, 0, none⟩)]) W fun e w' => e = .returned (.bool (eQ l1 lo hi b)) ∧ Below W.heap.size W w' := by
 have hu := Tryz.underlying30
 have HS := zM (kT h0 h1)
 obtain ⟨n, hn⟩ : ∃ n : Int, n = ((aI (aJ b) 8 0).length : Int) := ⟨_, rfl⟩
 rw [← hn] at HS
 obtain ⟨q, hq⟩ : ∃ q, q = (decide (lo ≤ n) && decide (n ≤ hi)) := ⟨_, rfl⟩
 obtain ⟨f, hf⟩ : ∃ f, f = !(l1.any (dS b)) := ⟨_, rfl⟩
 have HQ := zM (show dA n lo hi = some q by rw [hq]; exact sY n lo hi)
 have HF := zM (show en a0 l1 b = some f by rw [hf]; exact qu a0 l1 b hok)
 have HE := zM (show eQ l1 lo hi b = (q && f) by rw [hq, hf, hn]; rfl)
 rw [HE.out]
 have HR := zM hr
 have HC := zM hc
 clear hr hc hn hq hf HE h0 h1 hok
 show Calls Tryz.prog 98 #[.int .u64 b, .pointer (some ⟨gl, 0, none⟩), .pointer (some ⟨gh, 0, none⟩), .pointer (some ⟨gg, 0, none⟩)] W _
 go_enter Tryz.func98, Tryz.ntmps98
 go_upto_region 1 with (fail)
 (try simp only [Act.put, List.setIfInBounds_toArray, List.set_cons_zero, List.set_cons_succ])
 refine zs (n := 11) (fun w' => w'.cell? ⟨gl, 0, none⟩ = some (.int .i64 lo) ∧ w'.cell? ⟨gh, 0, none⟩ = some (.int .i64 hi) ∧ w'.cell? ⟨gg, 0, none⟩ = some (.int .i64 a0) ∧ w'.cell? ⟨gg, 1, none⟩ = some (.slice A1 l1.length c1)) ⟨hl, hh, hg0, hg1⟩ (fun hHeld => ?_)
 have HB := zM (ey (Below.refl W.heap.size W))
 generalize W.drew = W1 at HB hHeld ⊢
 refine zq 0 6 ?_
 refine zl 2 8 hHeld ?_ (hy := by rintro w' ⟨s0, s1, s2, s3⟩; go_simp; with_reducible rfl)
 refine zl 3 9 hHeld ?_ (hy := by rintro w' ⟨s0, s1, s2, s3⟩; go_simp; with_reducible rfl)
 refine zh 1 7 Tryz.func89 #[.int .u64 b] (fun K hK => ?_)
 refine (eh b n _ HS.out).mono ?_
 rintro e w1 ⟨rfl, hd⟩
 have hb : Below _ _ _ := (by first | exact Drawn0.below hd | exact hd)
 refine ⟨_, rfl, ?_⟩
 refine hK.out _ _ ⟨bK hb hHeld.1, bK hb hHeld.2.1, bK hb hHeld.2.2.1, bK hb hHeld.2.2.2⟩ (fun hHeld => ?_)
 replace HB := zM (ah HB.out hb)
 clear hK K hd hb
 refine zn 7 ?_
 refine zh 4 10 Tryz.func77 #[.int .i64 n, .int .i64 lo, .int .i64 hi] (fun K hK => ?_)
 refine (dO n lo hi q _ HQ.out).mono ?_
 rintro e w2 ⟨rfl, hd⟩
 have hb : Below _ _ _ := (by first | exact Drawn0.below hd | exact hd)
 refine ⟨_, rfl, ?_⟩
 refine hK.out _ _ ⟨bK hb hHeld.1, bK hb hHeld.2.1, bK hb hHeld.2.2.1, bK hb hHeld.2.2.2⟩ (fun hHeld => ?_)
 replace HB := zM (ah HB.out hb)
 clear hK K hd hb
 refine zn 10 ?_
 refine zq 5 11 ?_
 cases q with
 | true =>
  refine zl 6 12 hHeld ?_ (hy := by rintro w' ⟨s0, s1, s2, s3⟩; go_simp; with_reducible rfl)
  refine zq 7 13 ?_
  refine zh 8 14 Tryz.func85 #[.agg #[.int .i64 a0, .slice A1 l1.length c1], .int .u64 b] (fun K hK => ?_)
  refine (mb a0 A1 c1 l1 b f _ (Kd.C_below HR.out HB.out) HC.out HF.out).mono ?_
  rintro e w3 ⟨rfl, hb⟩
  refine ⟨_, rfl, ?_⟩
  refine hK.out _ _ ⟨bK hb hHeld.1, bK hb hHeld.2.1, bK hb hHeld.2.2.1, bK hb hHeld.2.2.2⟩ (fun hHeld => ?_)
  replace HB := zM (ah HB.out hb)
  clear hK K hb
  refine zn 14 ?_
  refine zq 9 15 ?_
  refine zq 10 5 ?_
  refine zx ?_
  (try go_wp2)
  go_ret
  exact ⟨by first | rfl | (simp; done), HB.out⟩
 | false =>
  refine zv 6 12 ?_
  refine zv 7 13 ?_
  refine zv 8 14 ?_
  refine zq 9 15 ?_
  refine zq 10 5 ?_
  refine zx ?_
  (try go_wp2)
  go_ret
  exact ⟨by first | rfl | (simp; done), HB.out⟩
def gF (a0_0 : Int) (l0_1 : List S69) (a1 a2 : Int) : Option (List (List Int)) :=
 if (0 ≤ a0_0 ∧ a0_0 ≤ 8) ∧ gL l0_1 = true then some (bJ (bS (eQ l0_1 a1 a2) (2 ^ a0_0.toNat))) else none
set_option maxHeartbeats 2000000 in
theorem qY (a0_0 : Int) (A0_1 : Option Addr) (c0_1 : Nat) (l0_1 : List (S69)) (a1 : Int) (a2 : Int) (r : List (List Int)) (w : World) (hr0_1 : Kd.C k69 w A0_1 l0_1.length l0_1) (hc0_1 : l0_1.length ≤ c0_1) (h : gF a0_0 l0_1 a1 a2 = some r) :
  Calls Tryz.prog 78 #[.agg #[.int .i64 a0_0, .slice A0_1 l0_1.length c0_1], .int .i64 a1, .int .i64 a2] w fun e w' => ∃ v0_ : Value, e = .returned (v0_) ∧ Kd.S (Kd.slice 3 (Kd.int .i64)) 25 w' w.heap.size (fun _ => True) v0_ r ∧ Below w.heap.size w w' := by
 unfold gF at h
 by_cases c : (0 ≤ a0_0 ∧ a0_0 ≤ 8) ∧ gL l0_1 = true
 case neg => rw [if_neg c] at h; cases h
 rw [if_pos c] at h
 have HE := zM (ao h)
 have HR := zM hr0_1
 have HC := zM hc0_1
 have HO := zM c
 have hpow : 2 ^ a0_0.toNat ≤ 256 := Nat.pow_le_pow_right (n := 2) (by decide) (show a0_0.toNat ≤ 8 by have := c.1; omega)
 have HPW := zM hpow
 clear h hr0_1 hc0_1 c hpow
 have HP := fun (W : World) (gg gl gh : Nat) (hg0 : W.cell? ⟨gg, 0, none⟩ = some (.int .i64 a0_0)) (hg1 : W.cell? ⟨gg, 1, none⟩ = some (.slice A0_1 l0_1.length c0_1)) (hl : W.cell? ⟨gl, 0, none⟩ = some (.int .i64 a1)) (hh : W.cell? ⟨gh, 0, none⟩ = some (.int .i64 a2)) (hr : Kd.C k69 W A0_1 l0_1.length l0_1) =>
  zM (show PredN 98 #[.pointer (some ⟨gl, 0, none⟩), .pointer (some ⟨gh, 0, none⟩), .pointer (some ⟨gg, 0, none⟩)] (eQ l0_1 a1 a2) (2 ^ a0_0.toNat) W from fun W' b h0 h1 hb =>
   rx gl gh gg a1 a2 a0_0 A0_1 c0_1 l0_1 b h0 (by have := HPW.out; omega) HO.out.2 W' (bK hb hl) (bK hb hh) (bK hb hg0) (bK hb hg1) (Kd.C_below hr hb) HC.out)
 have HB1 := zM (bp (bp (bp (Below.refl w.heap.size w) (.cells #[.int .i64 a0_0, .slice A0_1 l0_1.length c0_1] 30)) (.cells #[.int .i64 a1] 3)) (.cells #[.int .i64 a2] 3))
 go_enter Tryz.func78, Tryz.ntmps78
 go_wp2_with (go_at_call 97; refine (oz _ _ (enters_of Tryz.func98 (by kernel_rfl) rfl) _ a0_0 HO.out.1.1 HO.out.1.2 A0_1 c0_1 l0_1 _ (Kd.C_below HR.out HB1.out) HC.out (HP _ _ _ _ (by go_simp) (by go_simp) (by go_simp) (by go_simp) (Kd.C_below HR.out HB1.out)).out).mono ?_; rintro e w3 ⟨v3, rfl, ho, hb⟩; have HS := zM (Kd.S_lower ho (ai HB1.out)); have HB := zM (ah HB1.out hb); clear ho hb)
 go_ret
 exact ⟨_, rfl, by rw [← HE.out]; exact HS.out, HB.out⟩
attribute [local go_sem] aX aT aU aM aV aN aW aQ
set_option linter.unusedVariables false
set_option linter.unusedSimpArgs false
def eP (k : Nat) (a0_0 : Int) (l0_1 : List (S69)) (a1 : Int) : Option ((List (List Int)) × Bool) := (fI k a0_0 l0_1).bind fun t312 => (if t312 = true then ((dA a1 0 8).bind fun t313 => (if t313 = true then ((gF a0_0 l0_1 a1 a1).bind fun t314 => (some (t314, true))) else (some (([] : List (List Int)), false)))) else (some (([] : List (List Int)), false)))
theorem l8 (k : Nat) (a0_0 : Int) (A0_1 : Option Addr) (c0_1 : Nat) (l0_1 : List (S69)) (a1 : Int) (r1 : List (List Int)) (r2 : Bool) (w : World) (hr0_1 : Kd.C k69 w A0_1 l0_1.length l0_1) (hc0_1 : l0_1.length ≤ c0_1) (h : eP k a0_0 l0_1 a1 = some (r1, r2)) :
 Calls Tryz.prog 61 #[.agg #[.int .i64 a0_0, .slice A0_1 l0_1.length c0_1], .int .i64 a1] w fun e w' => ∃ v0_ : Value, e = .returned (.tuple #[v0_, .bool r2]) ∧ Kd.S (Kd.slice 3 (Kd.int .i64)) 25 w' w.heap.size (fun _ => True) v0_ r1 ∧ Below w.heap.size w w' := by
 have hu30 := Tryz.underlying30
 have HR0_1 := Aside0.mk hr0_1
 have HC0_1 := Aside0.mk hc0_1
 clear hr0_1 hc0_1
 have HB := zM (Below.refl w.heap.size w)
 have H := h
 unfold eP at H
 clear h
 replace H := ax H
 obtain ⟨t312, A30, H⟩ := H
 try dsimp only at H
 have A3 := Aside0.mk A30
 clear A30
 by_cases c4 : t312 = true
 · subst c4
   rw [if_pos rfl] at H
   replace H := ax H
   obtain ⟨t313, A50, H⟩ := H
   try dsimp only at H
   have A5 := Aside0.mk A50
   clear A50
   by_cases c6 : t313 = true
   · subst c6
     rw [if_pos rfl] at H
     replace H := ax H
     obtain ⟨t314, A70, H⟩ := H
     try dsimp only at H
     have A7 := Aside0.mk A70
     clear A70
     simp only [Option.some.injEq, Prod.mk.injEq] at H
     obtain ⟨rfl, rfl⟩ := H
     go_enter Tryz.func61, Tryz.ntmps61
     go_wp2_with (first | ((with_reducible refine ap (N := 2) rfl ?_); refine zb (w := w) 2 #[.int .i64 a0_0, .slice A0_1 l0_1.length c0_1] 30 zB ?_; clear HB; intro gb311 w8 HB BK311 GW311; have GE311 := GW311; have hcz9_0 := zy BK311 0; have hcz9_1 := zy BK311 1; have hfz9_0 := ae BK311.out 0; have hfz9_1 := ae BK311.out 1) | ((with_reducible refine ay (f := 59) rfl ?_); refine zc 7 Tryz.func59 #[.agg #[.int .i64 a0_0, .slice A0_1 l0_1.length c0_1]] ?_; (with_reducible refine (fJ k a0_0 _ _ l0_1 true _ ?side1 ?side2 A3.out).mono ?_); (case side1 => exact zC (Kd.C_below HR0_1.out HB.out)); (case side2 => exact HC0_1.out); rintro e w10 ⟨rfl, hb⟩; refine ⟨_, rfl, ?_⟩; replace BK311 := zJ BK311 hb; replace HB := zM (ah zB hb); (try clear hb); (try clear hi)) | (go_at_call 77; (with_reducible refine (dO a1 0 8 true _ A5.out).mono ?_); rintro e w' ⟨rfl, ⟨nd, rfl⟩⟩; have hcz11_0 := zy BK311 0; have hcz11_1 := zy BK311 1; have hfz11_0 := ae BK311.out 0; have hfz11_1 := ae BK311.out 1) | ((with_reducible refine ay (f := 78) rfl ?_); refine zc 17 Tryz.func78 #[.agg #[.int .i64 a0_0, .slice A0_1 l0_1.length c0_1], .int .i64 a1, .int .i64 a1] ?_; (with_reducible refine (qY a0_0 _ _ l0_1 a1 a1 t314 _ ?side1 ?side2 A7.out).mono ?_); (case side1 => exact zC (Kd.C_below HR0_1.out zB)); (case side2 => exact HC0_1.out); rintro e w12 ⟨v315, rfl, ho0, hb⟩; refine ⟨_, rfl, ?_⟩; have HO316 := zM (Kd.S_lower ho0 (ai zB)); replace BK311 := zJ BK311 hb; replace HB := zM (ah zB hb); (try clear hb); (try clear ho0)))
     go_ret2
     exact ⟨_, by first | rfl | (simp [al, ak] <;> rfl) | (simp [*, al, ak] <;> rfl), by (with_reducible repeat (first | apply Kd.S_alloc | apply Kd.S_drewN | apply Kd.S_drew)); exact HO316.out, zB⟩
   · replace c6 := Bool.eq_false_iff.mpr c6
     subst c6
     rw [if_neg (show ¬ (false = true) by decide)] at H
     simp only [Option.some.injEq, Prod.mk.injEq] at H
     obtain ⟨rfl, rfl⟩ := H
     go_enter Tryz.func61, Tryz.ntmps61
     go_wp2_with (first | ((with_reducible refine ap (N := 2) rfl ?_); refine zb (w := w) 2 #[.int .i64 a0_0, .slice A0_1 l0_1.length c0_1] 30 zB ?_; clear HB; intro gb311 w13 HB BK311 GW311; have GE311 := GW311; have hcz14_0 := zy BK311 0; have hcz14_1 := zy BK311 1; have hfz14_0 := ae BK311.out 0; have hfz14_1 := ae BK311.out 1) | ((with_reducible refine ay (f := 59) rfl ?_); refine zc 7 Tryz.func59 #[.agg #[.int .i64 a0_0, .slice A0_1 l0_1.length c0_1]] ?_; (with_reducible refine (fJ k a0_0 _ _ l0_1 true _ ?side1 ?side2 A3.out).mono ?_); (case side1 => exact zC (Kd.C_below HR0_1.out HB.out)); (case side2 => exact HC0_1.out); rintro e w15 ⟨rfl, hb⟩; refine ⟨_, rfl, ?_⟩; replace BK311 := zJ BK311 hb; replace HB := zM (ah zB hb); (try clear hb); (try clear hi)) | (go_at_call 77; (with_reducible refine (dO a1 0 8 false _ A5.out).mono ?_); rintro e w' ⟨rfl, ⟨nd, rfl⟩⟩))
     go_ret2
     exact ⟨_, by first | rfl | (simp [al, ak] <;> rfl) | (simp [*, al, ak] <;> rfl), by first | exact Kd.S_nil _ _ _ _ _ | exact Kd.N_nil _ _ _ _ _ | exact Kd.V_nil _ _ _ _ _ | exact Kd.Q_nil _ _ _ _ _ | exact Kd.R_nil _ _ _ _ _, zB⟩
 · replace c4 := Bool.eq_false_iff.mpr c4
   subst c4
   rw [if_neg (show ¬ (false = true) by decide)] at H
   simp only [Option.some.injEq, Prod.mk.injEq] at H
   obtain ⟨rfl, rfl⟩ := H
   go_enter Tryz.func61, Tryz.ntmps61
   go_wp2_with (first | ((with_reducible refine ap (N := 2) rfl ?_); refine zb (w := w) 2 #[.int .i64 a0_0, .slice A0_1 l0_1.length c0_1] 30 zB ?_; clear HB; intro gb311 w16 HB BK311 GW311; have GE311 := GW311; have hcz17_0 := zy BK311 0; have hcz17_1 := zy BK311 1; have hfz17_0 := ae BK311.out 0; have hfz17_1 := ae BK311.out 1) | ((with_reducible refine ay (f := 59) rfl ?_); refine zc 7 Tryz.func59 #[.agg #[.int .i64 a0_0, .slice A0_1 l0_1.length c0_1]] ?_; (with_reducible refine (fJ k a0_0 _ _ l0_1 false _ ?side1 ?side2 A3.out).mono ?_); (case side1 => exact zC (Kd.C_below HR0_1.out HB.out)); (case side2 => exact HC0_1.out); rintro e w18 ⟨rfl, hb⟩; refine ⟨_, rfl, ?_⟩; replace BK311 := zJ BK311 hb; replace HB := zM (ah zB hb); (try clear hb); (try clear hi)))
   go_ret2
   exact ⟨_, by first | rfl | (simp [al, ak] <;> rfl) | (simp [*, al, ak] <;> rfl), by first | exact Kd.S_nil _ _ _ _ _ | exact Kd.N_nil _ _ _ _ _ | exact Kd.V_nil _ _ _ _ _ | exact Kd.Q_nil _ _ _ _ _ | exact Kd.R_nil _ _ _ _ _, zB⟩
def bk (a b : List Int) : List Int := a.filter fun x => !decide (x ∈ b)
def iq (x y : List Int) : Bool := (bk x y).length == 1 && (bk y x).length == 1
def iJ (x y : List Int) : Bool := (bk x y).length + (bk y x).length == 1
def jp (es : List S69) (a b : Int) : Bool := es.any fun e => (e.f0 == a && e.f1 == b) || (e.f0 == b && e.f1 == a)
def cN (es : List S69) (x y : List Int) : Bool := iq x y && jp es ((bk x y).headD 0) ((bk y x).headD 0)
def fj (ok : Bool) (st : List Int → List Int → Bool) (t : List (List Int)) : Option (List (List Int) × List S69 × Bool) :=
 if t.length ≤ 1024 ∧ ok = true then some (bJ t, bg st 0 (bJ t), true) else none
def iI (f : List Int → List Int → Option Bool) (st : List Int → List Int → Bool) (t : List (List Int)) : Bool := decide (∀ x ∈ t, ∀ y ∈ t, f x y = some (st x y))
theorem ci (k : Nat) (ls : List (List Int)) (w : World) (h : ∀ x ∈ ls, ∀ y ∈ ls, jB k x y = some (iJ x y)) : iK 79 #[] #[] iJ ls w := by
 intro W x y A B c c' hx hy hb ha hc hb' hc'
 have h0 := qE k A c x B c' y _ W ha hc hb' hc' (h x hx y hy)
 rw [show (#[] : Array Value) ++ (#[.slice A x.length c, .slice B y.length c'] ++ #[]) = #[.slice A x.length c, .slice B y.length c'] from by simp]
 exact h0.mono fun e w' h => ⟨h.1, by first | exact h.2 | exact Drawn0.below h.2⟩
theorem oo (k : Nat) (a0 : Int) (A1 : Option Addr) (c1 : Nat) (l1 : List S69) (ls : List (List Int)) (w : World) (hr : Kd.C k69 w A1 l1.length l1) (hc1 : l1.length ≤ c1) (h : ∀ x ∈ ls, ∀ y ∈ ls, em k a0 l1 x y = some (cN l1 x y)) : iK 68 #[.agg #[.int .i64 a0, .slice A1 l1.length c1]] #[] (cN l1) ls w := by
 intro W x y A B c c' hx hy hb ha hc hb' hc'
 have h0 := qU k a0 A1 c1 l1 A c x B c' y _ W (Kd.C_below hr hb) hc1 ha hc hb' hc' (h x hx y hy)
 rw [show (#[.agg #[.int .i64 a0, .slice A1 l1.length c1]] : Array Value) ++ (#[.slice A x.length c, .slice B y.length c'] ++ #[]) = #[.agg #[.int .i64 a0, .slice A1 l1.length c1], .slice A x.length c, .slice B y.length c'] from by simp]
 exact h0.mono fun e w' h => ⟨h.1, by first | exact h.2 | exact Drawn0.below h.2⟩
def gD (k : Nat) (a0_0 : Int) (l0_1 : List S69) (a1 : Int) : Option (List (List Int) × List S69 × Bool) :=
 (eP k a0_0 l0_1 a1).bind fun t => if t.2 = true then fj (iI (em k a0_0 l0_1) (cN l0_1) t.1) (cN l0_1) t.1 else some ([], [], false)
set_option maxHeartbeats 2000000 in
theorem qT (k : Nat) (a0_0 : Int) (A0_1 : Option Addr) (c0_1 : Nat) (l0_1 : List (S69)) (a1 : Int) (r1 : List (List Int)) (r2 : List S69) (r3 : Bool) (w : World) (hr0_1 : Kd.C k69 w A0_1 l0_1.length l0_1) (hc0_1 : l0_1.length ≤ c0_1) (h : gD k a0_0 l0_1 a1 = some (r1, r2, r3)) :
  Calls Tryz.prog 41 #[.agg #[.int .i64 a0_0, .slice A0_1 l0_1.length c0_1], .int .i64 a1] w fun e w' => ∃ v0_ v1_ : Value, e = .returned (.tuple #[.agg #[v0_, v1_], .bool r3]) ∧ Kd.S (Kd.slice 3 (Kd.int .i64)) 25 w' w.heap.size (fun _ => True) v0_ r1 ∧ Kd.R k69 69 w' w.heap.size (fun _ => True) v1_ r2 ∧ Below w.heap.size w w' := by
 have hu := Tryz.underlying52
 have hug := Tryz.underlying30
 have HR := zM hr0_1
 have HC := zM hc0_1
 have HB := zM (Below.refl w.heap.size w)
 clear hr0_1 hc0_1
 unfold gD at h
 obtain ⟨t, ht, h⟩ := ax h
 obtain ⟨ls, b⟩ := t
 have HT := zM ht
 clear ht
 cases b with
 | false =>
  simp only [Bool.false_eq_true, if_false, Option.some.injEq, Prod.mk.injEq] at h
  obtain ⟨rfl, rfl, rfl⟩ := h
  go_enter Tryz.func41, Tryz.ntmps41
  go_wp2_with (first
    | ((with_reducible refine ap (N := 2) rfl ?_); refine ze 2 #[.int .i64 a0_0, .slice A0_1 l0_1.length c0_1] 30 ?_; intro g2 hg w1 hbox hb; have BK2 := zM hbox; replace HB := zM (ah HB.out hb); clear hg hbox hb)
    | ((with_reducible refine ap (N := 4) rfl ?_); refine ze 4 #[.slice none 0 0, .slice none 0 0] 52 ?_; intro g4 hg w2 hbox hb; have BK4 := zM hbox; have HG4 := zM (show w.heap.size ≤ g4 by rw [hg]; exact ai HB.out); replace HB := zM (ah HB.out hb); replace BK2 := zM (bo BK2.out hb); clear hg hbox hb; have hd0 := zy BK2 0; have hd1 := zy BK2 1)
    | (go_at_call 61; refine (l8 k a0_0 A0_1 c0_1 l0_1 a1 _ _ _ (Kd.C_below HR.out HB.out) HC.out HT.out).mono ?_; rintro e w3 ⟨v3, rfl, ho, hb⟩; have BK2b := zM (bo BK2.out hb); have BK4b := zM (bo BK4.out hb); have HB3 := zM (ah HB.out hb); have HBs := zM hb; have HS := zM ho; clear hb ho; have hc0 := zy BK4b 0; have hc1 := zy BK4b 1; have hf0 := ae BK4b.out 0; have hf1 := ae BK4b.out 1; clear hd0 hd1; have hd0 := zy BK2b 0; have hd1 := zy BK2b 1; have hg0 := ae BK2b.out 0; have hg1 := ae BK2b.out 1))
  (try simp only [Exit.inBlock, Exit.then])
  refine bodyPost_ret (lc rfl _ _ g4 52 #[.slice none 0 0, .slice none 0 0] (0, 0) _ rfl (aD (cs := #[.slice none 0 0, .slice none 0 0]) (aD (cs := #[.slice none 0 0, .slice none 0 0]) BK4b.out 0 _ rfl) 1 _ rfl) hu rfl (by kernel_rfl)) rfl ?_
  exact ⟨_, _, by first | rfl | (simp; done), Kd.S_nil _ _ _ _ _, Kd.R_nil _ _ _ _ _, bz (bz HB3.out HG4.out) HG4.out⟩
 | true =>
  simp only [if_true] at h
  unfold fj at h
  by_cases c : ls.length ≤ 1024 ∧ iI (em k a0_0 l0_1) (cN l0_1) ls = true
  case neg => rw [if_neg c] at h; cases h
  rw [if_pos c] at h
  simp only [Option.some.injEq, Prod.mk.injEq] at h
  obtain ⟨rfl, rfl, rfl⟩ := h
  have HST := zM (ac c.2)
  have HL := zM c.1
  clear c
  go_enter Tryz.func41, Tryz.ntmps41
  go_wp2_with (first
    | ((with_reducible refine ap (N := 2) rfl ?_); refine ze 2 #[.int .i64 a0_0, .slice A0_1 l0_1.length c0_1] 30 ?_; intro g2 hg w1 hbox hb; have BK2 := zM hbox; replace HB := zM (ah HB.out hb); clear hg hbox hb)
    | ((with_reducible refine ap (N := 4) rfl ?_); refine ze 4 #[.slice none 0 0, .slice none 0 0] 52 ?_; intro g4 hg w2 hbox hb; have BK4 := zM hbox; have HG4 := zM (show w.heap.size ≤ g4 by rw [hg]; exact ai HB.out); replace HB := zM (ah HB.out hb); replace BK2 := zM (bo BK2.out hb); clear hg hbox hb; have hd0 := zy BK2 0; have hd1 := zy BK2 1)
    | (go_at_call 61; refine (l8 k a0_0 A0_1 c0_1 l0_1 a1 _ _ _ (Kd.C_below HR.out HB.out) HC.out HT.out).mono ?_; rintro e w3 ⟨v3, rfl, ho, hb⟩; have BK2b := zM (bo BK2.out hb); have BK4b := zM (bo BK4.out hb); have HB3 := zM (ah HB.out hb); have HBs := zM hb; have HS := zM ho; clear hb ho; have hc0 := zy BK4b 0; have hc1 := zy BK4b 1; have hf0 := ae BK4b.out 0; have hf1 := ae BK4b.out 1; clear hd0 hd1; have hd0 := zy BK2b 0; have hd1 := zy BK2b 1; have hg0 := ae BK2b.out 0; have hg1 := ae BK2b.out 1)
    | (go_at_call 62; refine (ob 68 #[.agg #[.int .i64 a0_0, .slice A0_1 l0_1.length c0_1]] #[] (enters_of Tryz.func68 (by kernel_rfl) rfl) (cN l0_1) v3 ls w2 w3 HBs.out HS.out HL.out (oo k a0_0 A0_1 c0_1 l0_1 ls w2 (Kd.C_below HR.out HB.out) HC.out HST.out)).mono ?_; rintro e w5 ⟨v5, v6, rfl, h0, h1, hb⟩; clear hc0 hc1 hf0 hf1 BK4b; have BK4b := zM (bo BK4.out hb); have HB5 := zM (ah HB.out hb); have HS5 := zM (Kd.S_lower h0 (ai HB.out)); have HR5 := zM (Kd.R_lower h1 (ai HB.out)); clear h0 h1 hb; obtain ⟨A5, c5, e5⟩ := Kd.S_slice HS5.out; subst e5; obtain ⟨A6, c6, e6⟩ := Kd.R_slice HR5.out; subst e6; have hc0 := zy BK4b 0; have hc1 := zy BK4b 1; have hf0 := ae BK4b.out 0; have hf1 := ae BK4b.out 1))
  (try simp only [Exit.inBlock, Exit.then])
  refine bodyPost_ret (lc rfl _ _ g4 52 #[.slice A5 (bJ ls).length c5, .slice A6 (bg (cN l0_1) 0 (bJ ls)).length c6] (0, 0) _ rfl (aD (cs := #[.slice A5 (bJ ls).length c5, .slice none 0 0]) (aD (cs := #[.slice none 0 0, .slice none 0 0]) BK4b.out 0 _ rfl) 1 _ rfl) hu rfl (by kernel_rfl)) rfl ?_
  refine ⟨_, _, by first | rfl | (simp; done), ?_, ?_, bz (bz HB5.out HG4.out) HG4.out⟩
  · exact Kd.S_mono (Kd.S_far (p := ⟨g4, 1, none⟩) (Kd.S_far (p := ⟨g4, 0, none⟩) (Kd.S_types HS5.out BK4b.out (by decide)) (fun _ hk => hk.2) _) (fun _ hk => hk.2) _) (fun _ _ => trivial)
  · exact Kd.R_mono (Kd.R_far (p := ⟨g4, 1, none⟩) (Kd.R_far (p := ⟨g4, 0, none⟩) (Kd.R_types HR5.out BK4b.out (by decide)) (fun _ hk => hk.2) _) (fun _ hk => hk.2) _) (fun _ _ => trivial)
attribute [local go_sem] aX aT aU aM aV aN aW aQ
set_option linter.unusedVariables false
set_option linter.unusedSimpArgs false
def fH (k : Nat) (a0_0 : Int) (l0_1 : List (S69)) (l1 : List Int) (l2 : List Int) : Option ((List (List Int)) × Bool) := (gB k a0_0 l0_1 l1 l2).bind fun t649 => (if t649 = true then ((gD k a0_0 l0_1 (l1.length : Int)).bind fun bt650 => ((ek k bt650.1 bt650.2.1 l1 l2).bind fun bt658 => (some (bt658.1, bt658.2)))) else (some (([] : List (List Int)), false)))
theorem l7 (k : Nat) (a0_0 : Int) (A0_1 : Option Addr) (c0_1 : Nat) (l0_1 : List (S69)) (A1 : Option Addr) (c1 : Nat) (l1 : List Int) (A2 : Option Addr) (c2 : Nat) (l2 : List Int) (r1 : List (List Int)) (r2 : Bool) (w : World) (hr0_1 : Kd.C k69 w A0_1 l0_1.length l0_1) (hc0_1 : l0_1.length ≤ c0_1) (hr1 : Kd.C (Kd.int .i64) w A1 l1.length l1) (hc1 : l1.length ≤ c1) (hr2 : Kd.C (Kd.int .i64) w A2 l2.length l2) (hc2 : l2.length ≤ c2) (h : fH k a0_0 l0_1 l1 l2 = some (r1, r2)) :
 Calls Tryz.prog 21 #[.agg #[.int .i64 a0_0, .slice A0_1 l0_1.length c0_1], .slice A1 l1.length c1, .slice A2 l2.length c2] w fun e w' => ∃ v0_ : Value, e = .returned (.tuple #[v0_, .bool r2]) ∧ Kd.S (Kd.slice 3 (Kd.int .i64)) 25 w' w.heap.size (fun _ => True) v0_ r1 ∧ Below w.heap.size w w' := by
 have hu30 := Tryz.underlying30
 have hu52 := Tryz.underlying52
 have HR0_1 := Aside0.mk hr0_1
 have HC0_1 := Aside0.mk hc0_1
 clear hr0_1 hc0_1
 have HR1 := Aside0.mk hr1
 have HC1 := Aside0.mk hc1
 clear hr1 hc1
 have HR2 := Aside0.mk hr2
 have HC2 := Aside0.mk hc2
 clear hr2 hc2
 have HB := zM (Below.refl w.heap.size w)
 have H := h
 unfold fH at H
 clear h
 replace H := ax H
 obtain ⟨t649, A40, H⟩ := H
 try dsimp only at H
 have A4 := Aside0.mk A40
 clear A40
 by_cases c5 : t649 = true
 · subst c5
   rw [if_pos rfl] at H
   replace H := ax H
   obtain ⟨⟨t650, t653, t656⟩, A60, H⟩ := H
   try dsimp only at H
   have A6 := Aside0.mk A60
   clear A60
   replace H := ax H
   obtain ⟨⟨t658, t661⟩, A70, H⟩ := H
   try dsimp only at H
   have A7 := Aside0.mk A70
   clear A70
   simp only [Option.some.injEq, Prod.mk.injEq] at H
   obtain ⟨rfl, rfl⟩ := H
   go_enter Tryz.func21, Tryz.ntmps21
   go_wp2_with (first | ((with_reducible refine ap (N := 3) rfl ?_); refine zb (w := w) 3 #[.int .i64 a0_0, .slice A0_1 l0_1.length c0_1] 30 zB ?_; clear HB; intro gb648 w8 HB BK648 GW648; have GE648 := GW648; have hcz9_0 := zy BK648 0; have hcz9_1 := zy BK648 1; have hfz9_0 := ae BK648.out 0; have hfz9_1 := ae BK648.out 1) | ((with_reducible refine ay (f := 36) rfl ?_); refine zc 13 Tryz.func36 #[.agg #[.int .i64 a0_0, .slice A0_1 l0_1.length c0_1], .slice A1 l1.length c1, .slice A2 l2.length c2] ?_; (with_reducible refine (lY k a0_0 _ _ l0_1 _ _ l1 _ _ l2 true _ ?side1 ?side2 ?side3 ?side4 ?side5 ?side6 A4.out).mono ?_); (case side1 => exact zC (Kd.C_below HR0_1.out HB.out)); (case side2 => exact HC0_1.out); (case side3 => exact zC (Kd.C_below HR1.out HB.out)); (case side4 => exact HC1.out); (case side5 => exact zC (Kd.C_below HR2.out HB.out)); (case side6 => exact HC2.out); rintro e w10 ⟨rfl, hb⟩; refine ⟨_, rfl, ?_⟩; replace BK648 := zJ BK648 hb; replace HB := zM (ah zB hb); (try clear hb); have hcz11_0 := zy BK648 0; have hcz11_1 := zy BK648 1; have hfz11_0 := ae BK648.out 0; have hfz11_1 := ae BK648.out 1) | ((with_reducible refine ay (f := 41) rfl ?_); refine zc 19 Tryz.func41 #[.agg #[.int .i64 a0_0, .slice A0_1 l0_1.length c0_1], .int .i64 (l1.length : Int)] ?_; (with_reducible refine (qT k a0_0 _ _ l0_1 (l1.length : Int) t650 t653 t656 _ ?side1 ?side2 A6.out).mono ?_); (case side1 => exact zC (Kd.C_below HR0_1.out HB.out)); (case side2 => exact HC0_1.out); rintro e w12 ⟨v651, v654, rfl, ho0, ho1, hb⟩; refine ⟨_, rfl, ?_⟩; have HO652 := zM (Kd.S_lower ho0 (ai zB)); have HO655 := zM (Kd.R_lower ho1 (ai zB)); replace BK648 := zJ BK648 hb; replace HB := zM (ah zB hb); (try clear hb); (try clear ho0); (try clear ho1)) | ((with_reducible refine ap (N := 8) rfl ?_); refine ze 8 #[.slice none 0 0, .slice none 0 0] 52 ?_; intro gb657 hg w13 hbox hb; replace HO652 := zM (Kd.S_below (by (with_reducible repeat (first | apply Kd.S_alloc | apply Kd.S_drewN | apply Kd.S_drew)); exact HO652.out) hb); replace HO655 := zM (Kd.R_below (zR HO655.out) hb); have BK657 := zM (hbox); have GW657 := zM ((by rw [hg]; exact (ai zB) : w.heap.size ≤ gb657)); have GE657 := zM ((by rw [hg]; exact (ai zB) : w.heap.size ≤ gb657)); replace HB := zM (ah zB hb); have NB648_657 := zM ((by rw [hg]; exact Nat.ne_of_lt (aA (g := gb648) (o := .cells #[.int .i64 a0_0, .slice A0_1 l0_1.length c0_1] 30 (0, 0)) (zK BK648.out)) : gb648 ≠ gb657)); have NB657_648 := zM ((by rw [hg]; exact Nat.ne_of_gt (aA (g := gb648) (o := .cells #[.int .i64 a0_0, .slice A0_1 l0_1.length c0_1] 30 (0, 0)) (zK BK648.out)) : gb657 ≠ gb648)); replace BK648 := zJ BK648 hb; clear hb hbox hg; obtain ⟨Ao14, co14, eo14⟩ := Kd.S_slice HO652.out; subst eo14; have hnb15 := NB657_648.out; have hnc15 := NB648_657.out; have hcz16_0 := zy BK657 0; have hcz16_1 := zy BK657 1; have hfz16_0 := ae BK657.out 0; have hfz16_1 := ae BK657.out 1; obtain ⟨Ao17, co17, eo17⟩ := Kd.R_slice HO655.out; subst eo17) | ((with_reducible refine ay (f := 38) rfl ?_); refine zc 25 Tryz.func38 #[.agg #[.slice Ao14 t650.length co14, .slice Ao17 t653.length co17], .slice A1 l1.length c1, .slice A2 l2.length c2] ?_; (with_reducible refine (qJ k _ _ t650 _ _ t653 _ _ l1 _ _ l2 t658 t661 _ ?side1 ?side2 ?side3 ?side4 ?side5 ?side6 ?side7 ?side8 A7.out).mono ?_); (case side1 => refine (Kd.S_reads' (e := 25) (base := w.heap.size) (ok := fun k_ => True) (n := t650.length) (c := co14) ?_).2.2; exact (by (with_reducible repeat (first | apply Kd.S_alloc | apply Kd.S_drewN | apply Kd.S_drew)); exact (Kd.S_mono (Kd.S_far (p := ⟨gb657, 1, none⟩) (Kd.S_far (p := ⟨gb657, 0, none⟩) (Kd.S_types HO652.out BK657.out (by decide)) (fun _ hk => hk.2) (.slice Ao14 t650.length co14)) (fun _ hk => hk.2) (.slice Ao17 t653.length co17)) (fun _ h_ => h_.1)))); (case side2 => exact (Kd.S_reads' HO652.out).2.1); (case side3 => refine (Kd.R_reads' (e := 69) (base := w.heap.size) (ok := fun k_ => True) (n := t653.length) (c := co17) ?_).2.2; exact (by (with_reducible repeat (first | apply Kd.R_alloc | apply Kd.R_drewN | apply Kd.R_drew)); exact (Kd.R_mono (Kd.R_far (p := ⟨gb657, 1, none⟩) (Kd.R_far (p := ⟨gb657, 0, none⟩) (Kd.R_types HO655.out BK657.out (by decide)) (fun _ hk => hk.2) (.slice Ao14 t650.length co14)) (fun _ hk => hk.2) (.slice Ao17 t653.length co17)) (fun _ h_ => h_.1)))); (case side4 => exact (Kd.R_reads' HO655.out).2.1); (case side5 => exact Kd.C_below HR1.out zB); (case side6 => exact HC1.out); (case side7 => exact Kd.C_below HR2.out zB); (case side8 => exact HC2.out); rintro e w18 ⟨v659, rfl, ho0, hb⟩; refine ⟨_, rfl, ?_⟩; replace HO655 := zM (Kd.R_below (by (with_reducible repeat (first | apply Kd.R_alloc | apply Kd.R_drewN | apply Kd.R_drew)); exact (Kd.R_mono (Kd.R_far (p := ⟨gb657, 1, none⟩) (Kd.R_far (p := ⟨gb657, 0, none⟩) (Kd.R_types HO655.out BK657.out (by decide)) (fun _ hk => hk.2) (.slice Ao14 t650.length co14)) (fun _ hk => hk.2) (.slice Ao17 t653.length co17)) (fun _ h_ => h_.1))) hb); have HO660 := zM (Kd.S_lower (Kd.S_new' ho0 (Kd.S_lt (by (with_reducible repeat (first | apply Kd.S_alloc | apply Kd.S_drewN | apply Kd.S_drew)); exact (Kd.S_mono (Kd.S_far (p := ⟨gb657, 1, none⟩) (Kd.S_far (p := ⟨gb657, 0, none⟩) (Kd.S_types HO652.out BK657.out (by decide)) (fun _ hk => hk.2) (.slice Ao14 t650.length co14)) (fun _ hk => hk.2) (.slice Ao17 t653.length co17)) (fun _ h_ => h_.1))))) (ai zB)); replace HO652 := zM (Kd.S_elder' (by (with_reducible repeat (first | apply Kd.S_alloc | apply Kd.S_drewN | apply Kd.S_drew)); exact (Kd.S_mono (Kd.S_far (p := ⟨gb657, 1, none⟩) (Kd.S_far (p := ⟨gb657, 0, none⟩) (Kd.S_types HO652.out BK657.out (by decide)) (fun _ hk => hk.2) (.slice Ao14 t650.length co14)) (fun _ hk => hk.2) (.slice Ao17 t653.length co17)) (fun _ h_ => h_.1))) (Kd.S_base ho0) hb); replace BK648 := zM (bo (g := gb648) (o := .cells #[.int .i64 a0_0, .slice A0_1 l0_1.length c0_1] 30 (0, 0)) (by (with_reducible repeat (first | refine aw ?_ _ | refine aq ?_ | refine av ?_ _)); refine bx ?_ NB648_657.out _; (with_reducible repeat (first | refine aw ?_ _ | refine aq ?_ | refine av ?_ _)); refine bx ?_ NB648_657.out _; (with_reducible repeat (first | refine aw ?_ _ | refine aq ?_ | refine av ?_ _)); exact BK648.out) hb); replace BK657 := zM (bo (g := gb657) (o := .cells #[.slice Ao14 t650.length co14, .slice Ao17 t653.length co17] 52 (0, 0)) (by (with_reducible repeat (first | refine aw ?_ _ | refine aq ?_ | refine av ?_ _)); refine aD (cs := #[.slice Ao14 t650.length co14, .slice none 0 0]) ?_ 1 _ rfl; (with_reducible repeat (first | refine aw ?_ _ | refine aq ?_ | refine av ?_ _)); refine aD (cs := #[.slice none 0 0, .slice none 0 0]) ?_ 0 _ rfl; (with_reducible repeat (first | refine aw ?_ _ | refine aq ?_ | refine av ?_ _)); exact BK657.out) hb); replace HB := zM (ah zB hb); (try clear hb); (try clear ho0)))
   go_ret2
   exact ⟨_, by first | rfl | (simp [al, ak] <;> rfl) | (simp [*, al, ak] <;> rfl), by (with_reducible repeat (first | apply Kd.S_alloc | apply Kd.S_drewN | apply Kd.S_drew)); exact Kd.S_mono HO660.out (fun _ hk => trivial), zB⟩
 · replace c5 := Bool.eq_false_iff.mpr c5
   subst c5
   rw [if_neg (show ¬ (false = true) by decide)] at H
   simp only [Option.some.injEq, Prod.mk.injEq] at H
   obtain ⟨rfl, rfl⟩ := H
   go_enter Tryz.func21, Tryz.ntmps21
   go_wp2_with (first | ((with_reducible refine ap (N := 3) rfl ?_); refine zb (w := w) 3 #[.int .i64 a0_0, .slice A0_1 l0_1.length c0_1] 30 zB ?_; clear HB; intro gb648 w19 HB BK648 GW648; have GE648 := GW648; have hcz20_0 := zy BK648 0; have hcz20_1 := zy BK648 1; have hfz20_0 := ae BK648.out 0; have hfz20_1 := ae BK648.out 1) | ((with_reducible refine ay (f := 36) rfl ?_); refine zc 13 Tryz.func36 #[.agg #[.int .i64 a0_0, .slice A0_1 l0_1.length c0_1], .slice A1 l1.length c1, .slice A2 l2.length c2] ?_; (with_reducible refine (lY k a0_0 _ _ l0_1 _ _ l1 _ _ l2 false _ ?side1 ?side2 ?side3 ?side4 ?side5 ?side6 A4.out).mono ?_); (case side1 => exact zC (Kd.C_below HR0_1.out HB.out)); (case side2 => exact HC0_1.out); (case side3 => exact zC (Kd.C_below HR1.out HB.out)); (case side4 => exact HC1.out); (case side5 => exact zC (Kd.C_below HR2.out HB.out)); (case side6 => exact HC2.out); rintro e w21 ⟨rfl, hb⟩; refine ⟨_, rfl, ?_⟩; replace BK648 := zJ BK648 hb; replace HB := zM (ah zB hb); (try clear hb); (try clear hi)))
   go_ret2
   exact ⟨_, by first | rfl | (simp [al, ak] <;> rfl) | (simp [*, al, ak] <;> rfl), by first | exact Kd.S_nil _ _ _ _ _ | exact Kd.N_nil _ _ _ _ _ | exact Kd.V_nil _ _ _ _ _ | exact Kd.Q_nil _ _ _ _ _ | exact Kd.R_nil _ _ _ _ _, zB⟩
attribute [local go_sem] aX aT aU aM aV aN aW aQ
set_option linter.unusedVariables false
set_option linter.unusedSimpArgs false
def cQ : Nat → List Int → Int → Int → Option (Int × List Int)
 | 0, _, _, _ => none
 | k + 1, x0, x1, x5 => if x5 < (x0.length : Int) then (if 0 ≤ x5 then (cQ k (x0.set (x5 : Int).toNat x1) (wrap64 (x1 + 1)) (wrap64 (x5 + 1))) else (none)) else (some (x1, x0))
def dx (k : Nat) (l0 : List Int) (a1 : Int) : Option (Int × List Int) := cQ k l0 a1 0
theorem jt (k : Nat) (P0_ : Nat → Prop) (u9000_ : Value) (l0 : List Int) (a1 : Int) (r1 : Int) (r2 : List Int) (w0 w : World) (hB : Below w0.heap.size w0 w) (ho0 : Kd.R (Kd.int .i64) 3 w w0.heap.size P0_ u9000_ l0) (h : dx k l0 a1 = some (r1, r2)) :
 Calls Tryz.prog 17 #[u9000_, .int .i64 a1] w fun e w' => e = .returned (.int .i64 r1) ∧ Kd.R (Kd.int .i64) 3 w' w0.heap.size (fun k_ => (P0_ k_ ∨ w.heap.size ≤ k_)) u9000_ r2 ∧ Below w0.heap.size w0 w' ∧ Kept w w' (fun k_ => P0_ k_) := by
 have HO0 := zM (show Kd.R (Kd.int .i64) 3 w w0.heap.size (fun k_ => (P0_ k_ ∨ w.heap.size ≤ k_)) u9000_ l0 from Kd.R_mono ho0 (fun k_ hk => (.inl hk)))
 have HK := zM (Kept.refl w (fun k_ => P0_ k_))
 have HW0 := Aside0.mk hB.size
 have HB := Aside0.mk hB
 clear hB
 have H := h
 unfold dx at H
 clear h
 have H' := Aside0.mk H
 clear H
 go_enter Tryz.func17, Tryz.ntmps17
 go_wp2
 go_loopg [1, 5] k (fun kq v1 v5 w' => ∃ (x0_1 : List Int) (x1_1 : Int) (x5_1 : Int), v1 = .int .i64 x1_1 ∧ v5 = .int .i64 x5_1 ∧ Aside0 (cQ kq x0_1 x1_1 x5_1 = some (r1, r2)) ∧ Aside0 (kq ≤ k) ∧ Aside0 (Kd.R (Kd.int .i64) 3 w' w0.heap.size (fun k_ => (P0_ k_ ∨ w.heap.size ≤ k_)) u9000_ x0_1) ∧ Aside0 (Kept w w' (fun k_ => P0_ k_)) ∧ Aside0 (Below w0.heap.size w0 w'))
 case atStart => exact ⟨(l0), (a1), (0), (by first | rfl | (simp; done) | (simp [*]; done)), (by first | rfl | (simp; done) | (simp [*]; done)), H', ⟨au _⟩, ⟨zR HO0.out⟩, ⟨by repeat (first | (with_reducible first | exact HK.out | apply Kept.alloc | apply Kept.drewN | apply Kept.drew) | exact HK.out)⟩, ⟨zB⟩⟩
 case round =>
  clear H'
  try clear c1
  try clear p2
  obtain ⟨x0_1, x1_1, x5_1, rfl, rfl, HA, HK1, HO_0, HK, HB⟩ := hrel
  cases gk with
  | zero => exact absurd HA.out (by simp [cQ])
  | succ k1 =>
   have H := HA.out
   clear HA
   simp only [cQ] at H
   by_cases c3 : x5_1 < (x0_1.length : Int)
   · rw [if_pos c3] at H
     have c3b0 := ag c3
     clear c3
     by_cases c4 : 0 ≤ x5_1
     case neg => rw [if_neg c4] at H; simp at H
     rw [if_pos c4] at H
     have c4b0 := ag c4
     clear c4
     obtain ⟨y135, hy135⟩ : ∃ y_ : List Int, y_ = (x0_1.set (x5_1 : Int).toNat x1_1) := ⟨_, rfl⟩
     replace H : (cQ k1 y135 (wrap64 (x1_1 + 1)) (wrap64 (x5_1 + 1))) = some (r1, r2) := by first | (rw [hy135]; with_reducible exact H) | (have H2_ := (Option.bind_some _ _).symm.trans H; rw [hy135]; with_reducible exact H2_) | (have H2_ := (Option.bind_some _ _).symm.trans H; with_reducible exact H2_) | with_reducible exact H | (rw [hy135]; exact H) | exact H
     have Ny135 := Aside0.mk hy135
     clear hy135
     have H' := Aside0.mk H
     clear H
     obtain ⟨Ao6, co6, eo6⟩ := Kd.R_slice HO_0.out
     subst eo6
     have p5 : 0 ≤ (x5_1 : Int) := ac zA
     have q5 : (x5_1 : Int) < ((x0_1.length : Int) : Int) := ac zA
     obtain ⟨go5, co5, eo5, gb5, gl5, cl5, HG5⟩ := Kd.R_form HO_0.out (by omega)
     (first | cases eo5 | (injection eo5 with ea_ en_ ec_; (first | subst ea_ | (injection ea_ with ea_; subst ea_)); subst ec_; clear en_))
     have GB5 := Aside0.mk gb5
     have GG5 := Aside0.mk HG5
     clear gb5 gl5 HG5
     have HMgo5 := zM (show (P0_ go5 ∨ w.heap.size ≤ go5) from (HO_0.out.1 _ rfl))
     obtain ⟨hx5_0, hf5_0⟩ := Kd.R_celln 0 HO_0.out (x5_1 : Int) p5 q5
     replace p5 := eq_true p5
     replace q5 := eq_true q5
     have HP7 := Kd.R_putg HO_0.out (x5_1 : Int) x1_1
     go_wp2_with (first | ((with_reducible refine cG (t := 3) (p := 15) rfl ?_); refine cx (t := 3) (p := 15) (v := ?vo_w8) (w1 := (wr.setCell ⟨go5, (x5_1 : Int).toNat, none⟩ (.int .i64 x1_1))) ?hg ?ho ?hn ?hr ?_; (case ho => rfl); (case hg => rfl); (case hn => rfl); (case hr => first | (go_simp; done) | (go_simp; rfl)); intro w8 hw; have hg : wr.grownBy w8 (some go5) := (by rw [hw]; exact HP7.2); have hp_ : Kd.R (Kd.int .i64) 3 w8 w0.heap.size (fun k_ => (P0_ k_ ∨ w.heap.size ≤ k_)) (.slice (some ⟨go5, 0, none⟩) x0_1.length co6) y135 := (by rw [hw, Ny135.out]; exact HP7.1); clear HP7; replace HB := zM ((by rw [hw]; exact bz (HB.out) GB5.out : Below w0.heap.size w0 w8)); replace HK := zM (Kept.of_grown (S := (fun k_ => P0_ k_)) hg (by repeat (first | (with_reducible first | exact HK.out | apply Kept.alloc | apply Kept.drewN | apply Kept.drew) | exact HK.out)) (fun k_ e_ => (HO_0.out.1 k_ e_))); replace HO_0 := zM (hp_); clear hg hw hp_))
     go_roundg k1
     case measure => have := HK1.out; omega
     case rel => exact ⟨(y135), (wrap64 (x1_1 + 1)), (wrap64 (x5_1 + 1)), (by first | rfl | (simp; done) | (simp [*]; done)), (by first | rfl | (simp; done) | (simp [*]; done)), H', ⟨by have := HK1.out; omega⟩, ⟨zR HO_0.out⟩, ⟨by repeat (first | (with_reducible first | exact HK.out | apply Kept.alloc | apply Kept.drewN | apply Kept.drew) | exact HK.out)⟩, ⟨zB⟩⟩
   · rw [if_neg c3] at H
     have c3b0 : decide (x5_1 < (x0_1.length : Int)) = false := ar c3
     clear c3
     simp only [Option.some.injEq, Prod.mk.injEq] at H
     obtain ⟨rfl, rfl⟩ := H
     obtain ⟨Ao9, co9, eo9⟩ := Kd.R_slice HO_0.out
     subst eo9
     go_wp2
     go_ret
     exact ⟨by first | rfl | (simp [al, ak] <;> rfl) | (simp [*, al, ak] <;> rfl), by (with_reducible repeat (first | apply Kd.R_alloc | apply Kd.R_drewN | apply Kd.R_drew)); exact HO_0.out, by repeat (first | (with_reducible first | exact HB.out | apply bp | apply bO | apply aC) | exact HB.out), by repeat (first | (with_reducible first | exact HK.out | apply Kept.alloc | apply Kept.drewN | apply Kept.drew) | exact HK.out)⟩
end Go.Proofs.YtadjbmcfgjmhkaaGreat.P
