/- impl's StuckSets: the rows that it gives are rows of the space's states, each once; for every world. -/
import Derived.Test.YtadjbmcfgjmhkaaGreatStuckSetsG18
import Derived.Test.YtadjbmcfgjmhkaaGreatStuckSetsG19
import Derived.Test.YtadjbmcfgjmhkaaGreatStuckSetsG5
import Derived.Handy
import Derived.Test.YtadjbmcfgjmhkaaGreatStuckSetsG14
import Derived.Test.YtadjbmcfgjmhkaaGreatStuckSetsG15
namespace Go.Proofs.YtadjbmcfgjmhkaaGreat.P
open Go.RowKit Go.Proofs.YtadjbmcfgjmhkaaGreatW.PrintWords Go.Proofs.YtadjbmcfgjmhkaaGreatW.PrintLast Go.Proofs.YtadjbmcfgjmhkaaGreatW.PrintMore
set_option linter.unusedVariables false
set_option linter.unusedSimpArgs false

def stuckZ : List (List Int) → List (List Int × Nat) → List (List Int × Nat)
  | z :: zs, s :: ss => (if z.length = 0 then [s] else []) ++ stuckZ zs ss
  | _, _ => []
def stuckR : List (List Int) → List (List Int) → List (List Int)
  | z :: zs, s :: ss => (if z.length = 0 then [s] else []) ++ stuckR zs ss
  | _, _ => []
theorem stuckZ_fst (z : List (List Int)) : ∀ (ls : List (List Int)) (n : Nat), (stuckZ z (ls.zipIdx n)).map Prod.fst = stuckR z ls := by
  induction z with
  | nil => intro ls n; simp [stuckZ, stuckR]
  | cons a z ih =>
    intro ls n
    cases ls with
    | nil => simp [stuckZ, stuckR]
    | cons b ls =>
      rw [List.zipIdx_cons, stuckZ, stuckR, List.map_append, ih]
      split <;> simp
theorem stuckZ_sub (z : List (List Int)) : ∀ (ps : List (List Int × Nat)), (stuckZ z ps).Sublist ps := by
  induction z with
  | nil => intro ps; simp [stuckZ]
  | cons a z ih =>
    intro ps
    cases ps with
    | nil => simp [stuckZ]
    | cons b ps =>
      rw [stuckZ]
      split
      · exact (ih ps).cons_cons b
      · exact (ih ps).cons b
theorem stuckZ_nodup (z ls : List (List Int)) : ((stuckZ z ls.zipIdx).map Prod.snd).Nodup := by
  refine List.Nodup.sublist ((stuckZ_sub z ls.zipIdx).map Prod.snd) ?_
  have h : ls.zipIdx.map Prod.snd = List.range ls.length := by
    rw [List.zipIdx_map_snd, List.range_eq_range']
  rw [h]
  exact List.nodup_range
def impl_StuckSets.f (k : Nat) (a0_0 : Int) (l0_1 : List S69) (a1 : Int) : Option (List (List Int) × Bool) :=
  (impl_SlideSpace.f k a0_0 l0_1 a1).bind fun t => if t.2.2 = true then (impl_Space_roads.f k t.1 t.2.1).bind fun z => if z.length = t.1.length ∧ t.1.length ≤ 1048576 then some (stuckR z t.1, true) else none else some ([], false)
set_option maxRecDepth 100000 in
set_option maxHeartbeats 4000000 in
theorem impl_StuckSets.calls (k : Nat) (a0_0 : Int) (A0_1 : Option Addr) (c0_1 : Nat) (l0_1 : List (S69)) (a1 : Int) (r1 : List (List Int)) (r2 : Bool) (w : World) (hr0_1 : Kd.C k69 w A0_1 l0_1.length l0_1) (hc0_1 : l0_1.length ≤ c0_1) (h : impl_StuckSets.f k a0_0 l0_1 a1 = some (r1, r2)) :
    Calls Tryz.prog 23 #[.agg #[.int .i64 a0_0, .slice A0_1 l0_1.length c0_1], .int .i64 a1] w fun e w' => ∃ v0_ : Value, e = .returned (.tuple #[v0_, .bool r2]) ∧ Kd.S (Kd.slice 3 (Kd.int .i64)) 25 w' w.heap.size (fun _ => True) v0_ r1 ∧ Below w.heap.size w w' := by
  have hu := Tryz.underlying52
  have hug := Tryz.underlying30
  have HR := zM hr0_1
  have HC := zM hc0_1
  have HB := zM (Below.refl w.heap.size w)
  clear hr0_1 hc0_1
  unfold impl_StuckSets.f at h
  obtain ⟨t, ht, h⟩ := Option.bind_eq_some_iff.mp h
  obtain ⟨ls, es, b⟩ := t
  have HT := zM ht
  clear ht
  cases b with
  | false =>
    simp only [Bool.false_eq_true, if_false, Option.some.injEq, Prod.mk.injEq] at h
    obtain ⟨rfl, rfl⟩ := h
    go_enter Tryz.func23, Tryz.ntmps23
    go_wp2_with (first
      | ((with_reducible refine gate_dst (N := 2) rfl ?_); refine ze 2 #[.int .i64 a0_0, .slice A0_1 l0_1.length c0_1] 30 ?_; intro g2 hg w1 hbox hb; have BK2 := zM hbox; replace HB := zM (below_step HB.out hb); clear hg hbox hb; have hd0 := zy BK2 0; have hd1 := zy BK2 1)
      | (go_at_call 41; refine (impl_SlideSpace.calls k a0_0 A0_1 c0_1 l0_1 a1 _ _ _ _ (Kd.C_below HR.out HB.out) HC.out HT.out).mono ?_; rintro e w3 ⟨v1, v2, rfl, ho0, ho1, hb⟩; have HB3 := zM (below_step HB.out hb); obtain ⟨A5, c5, e5⟩ := Kd.S_slice ho0; subst e5; obtain ⟨A6, c6, e6⟩ := Kd.R_slice ho1; subst e6; clear hb ho0 ho1 BK2 hd0 hd1)
      | ((with_reducible refine gate_dst (N := 6) rfl ?_); refine ze 6 #[.slice none 0 0, .slice none 0 0] 52 ?_; intro g6 hg w4 hbox hb; have BK6 := zM hbox; have HG6 := zM (show w.heap.size ≤ g6 by rw [hg]; exact below_size HB3.out); replace HB := zM (below_step HB3.out hb); clear hg hbox hb; have hc0 := zy BK6 0; have hc1 := zy BK6 1; have hf0 := blk_frozen BK6.out 0; have hf1 := blk_frozen BK6.out 1))
    go_ret2
    exact ⟨_, by first | rfl | (simp; done), Kd.S_nil _ _ _ _ _, below_set (below_set HB.out HG6.out) HG6.out⟩
  | true =>
    simp only [if_true] at h
    obtain ⟨z, hz, h⟩ := Option.bind_eq_some_iff.mp h
    have HZ := zM hz
    clear hz
    by_cases c : z.length = ls.length ∧ ls.length ≤ 1048576
    case neg => rw [if_neg c] at h; cases h
    rw [if_pos c] at h
    simp only [Option.some.injEq, Prod.mk.injEq] at h
    obtain ⟨h1, rfl⟩ := h
    have HE := zM h1
    have HZL := zM c.1
    have HL := zM c.2
    clear c h1
    obtain ⟨RR, hRR⟩ : ∃ RR, RR = stuckZ z ls.zipIdx := ⟨_, rfl⟩
    have HRR := zM hRR
    have HRl := zM (show RR.length ≤ 1048576 by
      have h1 := (stuckZ_sub z ls.zipIdx).length_le
      rw [List.length_zipIdx] at h1
      rw [hRR]
      exact Nat.le_trans h1 HL.out)
    clear hRR
    go_enter Tryz.func23, Tryz.ntmps23
    go_wp2_with (first
      | ((with_reducible refine gate_dst (N := 2) rfl ?_); refine ze 2 #[.int .i64 a0_0, .slice A0_1 l0_1.length c0_1] 30 ?_; intro g2 hg w1 hbox hb; have BK2 := zM hbox; replace HB := zM (below_step HB.out hb); clear hg hbox hb; have hd0 := zy BK2 0; have hd1 := zy BK2 1)
      | (go_at_call 41; refine (impl_SlideSpace.calls k a0_0 A0_1 c0_1 l0_1 a1 _ _ _ _ (Kd.C_below HR.out HB.out) HC.out HT.out).mono ?_; rintro e w3 ⟨v1, v2, rfl, ho0, ho1, hb⟩; have HO0 := zM (Kd.S_lower ho0 (below_size HB.out)); have HO1 := zM (Kd.R_lower ho1 (below_size HB.out)); have HB3 := zM (below_step HB.out hb); clear hb ho0 ho1 BK2 hd0 hd1; obtain ⟨A5, c5, e5⟩ := Kd.S_slice HO0.out; subst e5; obtain ⟨A6, c6, e6⟩ := Kd.R_slice HO1.out; subst e6)
      | ((with_reducible refine gate_dst (N := 6) rfl ?_); refine ze 6 #[.slice none 0 0, .slice none 0 0] 52 ?_; intro g6 hg w4 hbox hb; have BK6 := zM hbox; have HG6 := zM (show w.heap.size ≤ g6 by rw [hg]; exact below_size HB3.out); replace HB := zM (below_step HB3.out hb); replace HO0 := zM (Kd.S_below HO0.out hb); replace HO1 := zM (Kd.R_below HO1.out hb); clear hg hbox hb HB3; have hc0 := zy BK6 0; have hc1 := zy BK6 1; have hf0 := blk_frozen BK6.out 0; have hf1 := blk_frozen BK6.out 1)
      | ((with_reducible refine gate_dst (N := 19) rfl ?_); obtain ⟨f, hf⟩ := HO0.out; refine Kd.R_lit (Kd.tag f (Kd.slice 3 (Kd.int .i64))) _ 25 ?hg (N := 19) ?hd (xs := ([] : List (List Int × Nat))) (inner := []) (ok := fun _ => True) (okp := fun _ => True) ?hr ?hp (fun _ hk => hk) trivial (Below.refl _ _) (Nat.le_refl _) (by simp) ?_; (case hd => rfl); (case hg => rfl); (case hr => first | (go_simp; done) | (go_simp; rfl)); (case hp => exact (Reps.none _ _)); intro v19 w5 ho hb hg_ hnew_; clear hg_ hnew_; have HS := zM (Kd.R_elder' (v := v19) (Kd.R_mono (ok' := fun _ => True) (Kd.R_far (p := ⟨g6, 1, none⟩) (Kd.R_far (p := ⟨g6, 0, none⟩) (Kd.R_types hf BK6.out (show ∀ q, q ∈ [25, 3] → q ≠ 52 by decide)) (fun _ hk => hk.2) _) (fun _ hk => hk.2) _) (fun _ _ => trivial)) (Kd.R_base ho) hb); replace HO1 := zM (Kd.R_below (Kd.R_mono (ok' := fun _ => True) (Kd.R_far (p := ⟨g6, 1, none⟩) (Kd.R_far (p := ⟨g6, 0, none⟩) (Kd.R_types HO1.out BK6.out (by decide)) (fun _ hk => hk.2) _) (fun _ hk => hk.2) _) (fun _ _ => trivial)) hb); replace BK6 := zM (blk_below (blk_put (cs := #[.slice A5 ls.length c5, .slice none 0 0]) (blk_put (cs := #[.slice none 0 0, .slice none 0 0]) BK6.out 0 _ rfl) 1 _ rfl) hb); have HO := zM (Kd.R_lower ho (below_size (below_set (below_set HB.out HG6.out) HG6.out))); replace HB := zM (below_step (below_set (below_set HB.out HG6.out) HG6.out) hb); clear hb ho hf HO0; replace hc0 := zy BK6 0; replace hc1 := zy BK6 1; replace hf0 := blk_frozen BK6.out 0; replace hf1 := blk_frozen BK6.out 1)
      | (go_at_call 44; refine (impl_Space_roads.calls k _ _ ls _ _ es z _ (Kd.S_reads' (show Kd.S (Kd.slice 3 (Kd.int .i64)) 25 _ _ _ _ ls from ⟨f, HS.out⟩)).2.2 (Kd.S_reads' (show Kd.S (Kd.slice 3 (Kd.int .i64)) 25 _ _ _ _ ls from ⟨f, HS.out⟩)).2.1 (Kd.R_reads' HO1.out).2.2 (Kd.R_reads' HO1.out).2.1 HZ.out).mono ?_; rintro e w6 ⟨v21, rfl, ho, hb⟩; have HLi := zM (Kd.S_lower (Kd.S_new' ho (Kd.R_lt HO.out)) (below_size HB.out)); replace HS := zM (Kd.R_below HS.out hb); replace HO := zM (Kd.R_below HO.out hb); replace BK6 := zM (blk_below BK6.out hb); replace HB := zM (below_step HB.out hb); clear ho hb HO1; replace hc0 := zy BK6 0; replace hc1 := zy BK6 1; replace hf0 := blk_frozen BK6.out 0; replace hf1 := blk_frozen BK6.out 1; obtain ⟨A7, c7, e7⟩ := Kd.S_slice HLi.out; rw [HZL.out] at e7; subst e7))
    go_loopg [8, 23] (ls.length + 1) (fun kq v8 v23 w' => ∃ (i : Nat) (Q : List (List Int × Nat)), v23 = .int .i64 (i : Int) ∧ Aside0 (i ≤ ls.length) ∧ Aside0 (kq = ls.length - i + 1) ∧ Aside0 (Q ++ stuckZ (z.drop i) (ls.zipIdx.drop i) = RR) ∧ Aside0 ((Kd.tag f (Kd.slice 3 (Kd.int .i64))).R 25 w' w.heap.size (fun _ => True) v8 Q) ∧ Aside0 ((Kd.tag f (Kd.slice 3 (Kd.int .i64))).R 25 w' w.heap.size (fun k => True ∧ some k ≠ v8.ownBlock) (.slice A5 ls.length c5) ls.zipIdx) ∧ Aside0 (Kd.S (Kd.slice 3 (Kd.int .i64)) 25 w' w.heap.size (fun k => True ∧ some k ≠ v8.ownBlock) (.slice A7 ls.length c7) z) ∧ Aside0 (w'.heap[g6]? = some (.cells #[.slice A5 ls.length c5, .slice A6 es.length c6] 52 (0, 0))) ∧ Aside0 (Below w.heap.size w w'))
    case atStart => exact ⟨0, [], by first | rfl | (simp; done), ⟨Nat.zero_le _⟩, ⟨by omega⟩, ⟨by rw [List.drop_zero, List.drop_zero, List.nil_append]; exact HRR.out.symm⟩, HO, HS, HLi, BK6, HB⟩
    case round =>
      clear HS HO HLi BK6 HB hc0 hc1 hf0 hf1
      obtain ⟨i, Q, rfl, HI, HK1, HQ, HO, HS, HLi, BK6, HB⟩ := hrel
      have hc0 := zy BK6 0
      have hc1 := zy BK6 1
      have hf0 := blk_frozen BK6.out 0
      have hf1 := blk_frozen BK6.out 1
      by_cases c1 : i < ls.length
      · have q1 : (i : Int) < (ls.length : Int) := by omega
        have c1b : decide ((i : Int) < (ls.length : Int)) = true := decide_eq_true q1
        have c1c : decide (i < ls.length) = true := decide_eq_true c1
        have p1 : (0 : Int) ≤ (i : Int) := by omega
        have hw1 : (i : Int) + 1 ≤ 9223372036854775807 := by have := HL.out; omega
        have hzi : i < z.length := by have := HZL.out; omega
        obtain ⟨gZ, capZ, eZ, gbZ, glZ, cZ, hcZ⟩ := Kd.S_form HLi.out (by omega)
        injection eZ with eA eN ec
        subst eA; subst ec
        clear eN hcZ cZ
        obtain ⟨A0, c0, hx0⟩ := row_head HLi.out i c1
        have hli : ls.zipIdx[i]? = some (ls[i], i) := by rw [List.getElem?_zipIdx, List.getElem?_eq_getElem c1, Nat.zero_add]; rfl
        obtain ⟨gS, capS, eS, gbS, glS, cS, hcS⟩ := Kd.R_form HS.out (by rw [List.length_zipIdx]; omega)
        injection eS with eA eN ec
        subst eA; subst ec
        clear eN hcS cS
        obtain ⟨cs, hcl, hM, hcc⟩ := Kd.R_getA HS.out (([], 0) : List Int × Nat) (i : Int) p1 q1
        rw [Int.toNat_natCast, List.getD_eq_getElem?_getD, hli, Option.getD_some] at hM
        have HM := zM hM
        obtain ⟨u, rfl, hRu⟩ := hM
        have hx1 := hcc 0 u rfl
        have e1 : (⟨gS, 0, none⟩ : Addr).add ((i : Int).toNat * (Kd.tag f (Kd.slice 3 (Kd.int .i64))).sz + 0) = ⟨gS, i, none⟩ := by
          show (⟨gS, 0, none⟩ : Addr).add ((i : Int).toNat * 1 + 0) = _
          rw [Int.toNat_natCast, Nat.mul_one, Nat.add_zero, add_plain]
        rw [e1] at hx1
        have hQl : Q.length < 1048577 := by
          have h1 := congrArg List.length HQ.out
          simp only [List.length_append] at h1
          have := HRl.out
          omega
        have HQl := zM hQl
        have HC1 := zM c1
        have HQ2 := zM (show Q ++ (if z[i].length = 0 then [(ls[i], i)] else []) ++ stuckZ (z.drop (i + 1)) (ls.zipIdx.drop (i + 1)) = RR by
          have h1 := HQ.out
          have hil : i < ls.zipIdx.length := by rw [List.length_zipIdx]; exact c1
          rw [List.drop_eq_getElem_cons hzi, List.drop_eq_getElem_cons hil, stuckZ] at h1
          have e2 : ls.zipIdx[i] = (ls[i], i) := by
            have h2 := List.getElem?_eq_getElem hil
            rw [h2] at hli
            exact Option.some.inj hli
          rw [e2] at h1
          rw [List.append_assoc]
          exact h1)
        have hzd : z.getD i [] = z[i] := by rw [List.getD_eq_getElem?_getD, List.getElem?_eq_getElem hzi, Option.getD_some]
        rw [hzd] at hx0
        generalize z[i].length = m at hx0 HQ2
        generalize ls[i] = row at HM hRu HQ2
        obtain ⟨Au, cu, eu⟩ := Kd.R_slice hRu
        subst eu
        replace p1 := eq_true p1
        replace q1 := eq_true q1
        clear c1 hzi hli hcc hcl hRu e1 hQl hzd gbZ glZ gbS glS HQ
        by_cases c2 : m = 0
        · subst c2
          rw [if_pos rfl] at HQ2
          obtain ⟨Q5, hQ5⟩ : ∃ Q5, Q5 = Q ++ [(row, i)] := ⟨_, rfl⟩
          rw [← hQ5] at HQ2
          have HQ5 := zM hQ5
          clear hQ5
          have m0 : (((0 : Nat) : Int) == 0) = true := rfl
          have m1 : decide (((0 : Nat) : Int) = 0) = true := rfl
          go_wp2_with (first
            | ((with_reducible refine gate_builtin (b := .append) (xs := #[.tmp 31, .tmp 37]) rfl ?_); at_builtin; refine Kd.R_append (Kd.tag f (Kd.slice 3 (Kd.int .i64))) (w0 := w) w.heap.size rfl (.tmp 31) (.tmp 37) 27 25 (.slice none 0 0) 24 rfl Tryz.underlying27 info25 rfl (show 0 < 1 by decide) (by omega) u8 Q (row, i) [.slice Au row.length cu] (fun _ => True) (fun k => some k ≠ u8.ownBlock) rfl rfl ?aP (fun _ hk => ⟨trivial, hk⟩) ?aF ?aO ?aB ?aS ?aL ?_; (case aP => exact (Kd.tag f (Kd.slice 3 (Kd.int .i64))).M_mono (fun _ hk => hk.1.2) HM.out); (case aB => exact HB.out); (case aF => exact (fun _ _ => trivial)); (case aO => exact (zR HO.out)); (case aS => exact (below_size HB.out)); (case aL => have := HQl.out; omega); intro v9 w9 ho hb hg hat; rw [← HQ5.out] at ho; replace HS := zM (Kd.R_after HS.out hg hat); replace HLi := zM (Kd.S_after HLi.out hg hat); replace BK6 := zM (blk_grown (zK BK6.out) hg (Kd.R_ne HO.out BK6.out (by decide))); replace HB := zM hb; replace HO := zM ho; clear ho hb hg hat; replace hc0 := zy BK6 0; replace hc1 := zy BK6 1; replace hf0 := blk_frozen BK6.out 0; replace hf1 := blk_frozen BK6.out 1))
          go_roundg (ls.length - i)
          case measure => have := HK1.out; have := HC1.out; omega
          case rel => exact ⟨i + 1, Q5, by first | rfl | (simp; done) | go_num, ⟨by have := HC1.out; omega⟩, ⟨by have := HC1.out; omega⟩, HQ2, HO, HS, HLi, BK6, HB⟩
        · rw [if_neg c2, List.append_nil] at HQ2
          have m0 : ((m : Int) == 0) = false := beq_eq_false_iff_ne.mpr (by omega)
          have m1 : decide ((m : Int) = 0) = false := decide_eq_false (by omega)
          have m2 : decide (m = 0) = false := decide_eq_false c2
          have m3 : (m == 0) = false := beq_eq_false_iff_ne.mpr c2
          clear c2
          go_wp2
          go_roundg (ls.length - i)
          case measure => have := HK1.out; have := HC1.out; omega
          case rel => exact ⟨i + 1, Q, by first | rfl | (simp; done) | go_num, ⟨by have := HC1.out; omega⟩, ⟨by have := HC1.out; omega⟩, HQ2, HO, HS, HLi, BK6, HB⟩
      · have hi : i = ls.length := by have := HI.out; omega
        have c1b : decide ((i : Int) < (ls.length : Int)) = false := decide_eq_false (by omega)
        have c1c : decide (i < ls.length) = false := decide_eq_false c1
        have HF := zM (show Q = RR by
          have h1 := HQ.out
          have h2 := HZL.out
          rw [List.drop_eq_nil_of_le (show z.length ≤ i by omega)] at h1
          simpa [stuckZ] using h1)
        clear c1 hi HQ
        go_wp2
        go_ret2
        refine ⟨_, rfl, ?_, HB.out⟩
        rw [← HE.out, ← stuckZ_fst z ls 0]
        refine S_perm (f := f) ?_ (stuckZ_nodup z ls)
        rw [← HRR.out, ← HF.out]
        exact HO.out
end Go.Proofs.YtadjbmcfgjmhkaaGreat.P
namespace Go.Proofs.YtadjbmcfgjmhkaaGreat.P
open Go.RowKit Go.Proofs.YtadjbmcfgjmhkaaGreatW.PrintWords Go.Proofs.YtadjbmcfgjmhkaaGreatW.PrintLast Go.Proofs.YtadjbmcfgjmhkaaGreatW.PrintMore
attribute [local go_sem] max2_int min2_int max_two min_two max_three min_three max_four min_four   -- for this text's walks alone
set_option linter.unusedVariables false
set_option linter.unusedSimpArgs false

/-! ### laws_markIntS: function 17 -/
def laws_markIntS.l0 : Nat → List Int → Int → Int → Option (Int × List Int)
 | 0, _, _, _ => none
 | k + 1, x0, x1, x5 => if x5 < (x0.length : Int) then (if 0 ≤ x5 then (laws_markIntS.l0 k (x0.set (x5 : Int).toNat x1) (wrap64 (x1 + 1)) (wrap64 (x5 + 1))) else (none)) else (some (x1, x0))
def laws_markIntS.f (k : Nat) (l0 : List Int) (a1 : Int) : Option (Int × List Int) := laws_markIntS.l0 k l0 a1 0
set_option maxHeartbeats 8000000 in
set_option maxRecDepth 100000 in
theorem laws_markIntS.calls (k : Nat) (P0_ : Nat → Prop) (u9000_ : Value) (l0 : List Int) (a1 : Int) (r1 : Int) (r2 : List Int) (w0 w : World) (hB : Below w0.heap.size w0 w) (ho0 : Kd.R (Kd.int .i64) 3 w w0.heap.size P0_ u9000_ l0) (h : laws_markIntS.f k l0 a1 = some (r1, r2)) :
 Calls Tryz.prog 17 #[u9000_, .int .i64 a1] w fun e w' => e = .returned (.int .i64 r1) ∧ Kd.R (Kd.int .i64) 3 w' w0.heap.size (fun k_ => (P0_ k_ ∨ w.heap.size ≤ k_)) u9000_ r2 ∧ Below w0.heap.size w0 w' ∧ Kept w w' (fun k_ => P0_ k_) := by
 have HO0 := zM (show Kd.R (Kd.int .i64) 3 w w0.heap.size (fun k_ => (P0_ k_ ∨ w.heap.size ≤ k_)) u9000_ l0 from Kd.R_mono ho0 (fun k_ hk => (.inl hk)))
 have HK := zM (Kept.refl w (fun k_ => P0_ k_))
 have HW0 := Aside0.mk hB.size
 have HB := Aside0.mk hB
 clear hB
 have H : (laws_markIntS.l0 k l0 a1 0) = some (r1, r2) := h
 clear h
 have H' := Aside0.mk H
 clear H
 go_enter Tryz.func17, Tryz.ntmps17
 go_wp2
 go_loopg [1, 5] k (fun kq v1 v5 w' => ∃ (x0_1 : List Int) (x1_1 : Int) (x5_1 : Int), v1 = .int .i64 x1_1 ∧ v5 = .int .i64 x5_1 ∧ Aside0 (laws_markIntS.l0 kq x0_1 x1_1 x5_1 = some (r1, r2)) ∧ Aside0 (kq ≤ k) ∧ Aside0 (Kd.R (Kd.int .i64) 3 w' w0.heap.size (fun k_ => (P0_ k_ ∨ w.heap.size ≤ k_)) u9000_ x0_1) ∧ Aside0 (Kept w w' (fun k_ => P0_ k_)) ∧ Aside0 (Below w0.heap.size w0 w'))
 case atStart => exact ⟨(l0), (a1), (0), (by first | rfl | (simp; done) | (simp [*]; done)), (by first | rfl | (simp; done) | (simp [*]; done)), H', ⟨Nat.le_refl _⟩, ⟨zR HO0.out⟩, ⟨by repeat (first | (with_reducible first | exact HK.out | apply Kept.alloc | apply Kept.drewN | apply Kept.drew) | exact HK.out)⟩, ⟨zB⟩⟩
 case round =>
  clear H'
  try clear c1
  try clear p2
  obtain ⟨x0_1, x1_1, x5_1, rfl, rfl, HA, HK1, HO_0, HK, HB⟩ := hrel
  cases gk with
  | zero => exact absurd HA.out (by simp [laws_markIntS.l0])
  | succ k1 =>
   have H := HA.out
   clear HA
   simp only [laws_markIntS.l0] at H
   by_cases c3 : x5_1 < (x0_1.length : Int)
   · rw [if_pos c3] at H
     have c3b0 := decide_eq_true c3
     clear c3
     by_cases c4 : 0 ≤ x5_1
     · rw [if_pos c4] at H
       have c4b0 := decide_eq_true c4
       clear c4
       obtain ⟨y135, hy135⟩ : ∃ y_ : List Int, y_ = (x0_1.set (x5_1 : Int).toNat x1_1) := ⟨_, rfl⟩
       replace H : (laws_markIntS.l0 k1 y135 (wrap64 (x1_1 + 1)) (wrap64 (x5_1 + 1))) = some (r1, r2) := by first | (rw [hy135]; with_reducible exact H) | (have H2_ := (Option.bind_some _ _).symm.trans H; rw [hy135]; with_reducible exact H2_) | (have H2_ := (Option.bind_some _ _).symm.trans H; with_reducible exact H2_) | with_reducible exact H | (rw [hy135]; exact H) | exact H
       have Ny135 := Aside0.mk hy135
       clear hy135
       have H' := Aside0.mk H
       clear H
       obtain ⟨Ao6, co6, eo6⟩ := Kd.R_slice HO_0.out
       subst eo6
       have p5 : 0 ≤ (x5_1 : Int) := of_decide_eq_true zA
       have q5 : (x5_1 : Int) < ((x0_1.length : Int) : Int) := of_decide_eq_true zA
       obtain ⟨go5, co5, eo5, gb5, gl5, cl5, HG5⟩ := Kd.R_form HO_0.out (by omega)
       (first | cases eo5 | (injection eo5 with ea_ en_ ec_; (first | subst ea_ | (injection ea_ with ea_; subst ea_)); subst ec_; clear en_))
       have GB5 := Aside0.mk gb5
       have GG5 := Aside0.mk HG5
       clear gb5 gl5 HG5
       have HMgo5 := zM (show (P0_ go5 ∨ w.heap.size ≤ go5) from (HO_0.out.1 _ rfl))
       obtain ⟨hx5_0, hf5_0⟩ := Kd.R_celln 0 HO_0.out (x5_1 : Int) p5 q5
       replace p5 := eq_true p5
       replace q5 := eq_true q5
       have HP7 := Kd.R_putg HO_0.out (x5_1 : Int) x1_1
       go_wp2_with (first | ((with_reducible refine gate_store (t := 3) (p := 15) rfl ?_); refine store_event (t := 3) (p := 15) (v := ?vo_w8) (w1 := (wr.setCell ⟨go5, (x5_1 : Int).toNat, none⟩ (.int .i64 x1_1))) ?hg ?ho ?hn ?hr ?_; (case ho => rfl); (case hg => rfl); (case hn => rfl); (case hr => first | (go_simp; done) | (go_simp; rfl)); intro w8 hw; have hg : wr.grownBy w8 (some go5) := (by rw [hw]; exact HP7.2); have hp_ : Kd.R (Kd.int .i64) 3 w8 w0.heap.size (fun k_ => (P0_ k_ ∨ w.heap.size ≤ k_)) (.slice (some ⟨go5, 0, none⟩) x0_1.length co6) y135 := (by rw [hw, Ny135.out]; exact HP7.1); clear HP7; replace HB := zM ((by rw [hw]; exact below_set (HB.out) GB5.out : Below w0.heap.size w0 w8)); replace HK := zM (Kept.of_grown (S := (fun k_ => P0_ k_)) hg (by repeat (first | (with_reducible first | exact HK.out | apply Kept.alloc | apply Kept.drewN | apply Kept.drew) | exact HK.out)) (fun k_ e_ => (HO_0.out.1 k_ e_))); replace HO_0 := zM (hp_); clear hg hw hp_))
       go_roundg k1
       case measure => have := HK1.out; omega
       case rel => exact ⟨(y135), (wrap64 (x1_1 + 1)), (wrap64 (x5_1 + 1)), (by first | rfl | (simp; done) | (simp [*]; done)), (by first | rfl | (simp; done) | (simp [*]; done)), H', ⟨by have := HK1.out; omega⟩, ⟨zR HO_0.out⟩, ⟨by repeat (first | (with_reducible first | exact HK.out | apply Kept.alloc | apply Kept.drewN | apply Kept.drew) | exact HK.out)⟩, ⟨zB⟩⟩
     · rw [if_neg c4] at H
       exact absurd H (by simp)
   · rw [if_neg c3] at H
     have c3b0 : decide (x5_1 < (x0_1.length : Int)) = false := decide_eq_false c3
     clear c3
     simp only [Option.some.injEq, Prod.mk.injEq] at H
     obtain ⟨rfl, rfl⟩ := H
     obtain ⟨Ao9, co9, eo9⟩ := Kd.R_slice HO_0.out
     subst eo9
     go_wp2
     go_ret
     exact ⟨by first | rfl | (simp [errW_none, errW_some] <;> rfl) | (simp [*, errW_none, errW_some] <;> rfl), by (with_reducible repeat (first | apply Kd.R_alloc | apply Kd.R_drewN | apply Kd.R_drew)); exact HO_0.out, by repeat (first | (with_reducible first | exact HB.out | apply below_alloc | apply pw_below_drewN | apply below_drew1) | exact HB.out), by repeat (first | (with_reducible first | exact HK.out | apply Kept.alloc | apply Kept.drewN | apply Kept.drew) | exact HK.out)⟩

end Go.Proofs.YtadjbmcfgjmhkaaGreat.P
namespace Go.Proofs.YtadjbmcfgjmhkaaGreat.P
open Go.RowKit Go.Proofs.YtadjbmcfgjmhkaaGreatW.PrintWords Go.Proofs.YtadjbmcfgjmhkaaGreatW.PrintLast Go.Proofs.YtadjbmcfgjmhkaaGreatW.PrintMore
set_option linter.unusedVariables false
set_option linter.unusedSimpArgs false

def seqS : Nat → Int → List Int
  | 0, _ => []
  | n + 1, k => k :: seqS n (wrap64 (k + 1))
def endS : Nat → Int → Int
  | 0, k => k
  | n + 1, k => endS n (wrap64 (k + 1))
theorem markS_loop (d : Nat) : ∀ (done rest : List Int) (c : Int), rest.length = d → done.length + d ≤ 9223372036854775807 →
    ∃ k, laws_markIntS.l0 k (done ++ rest) c (done.length : Int) = some (endS d c, done ++ seqS d c) := by
  induction d with
  | zero =>
    intro done rest c h0 h1
    have : rest = [] := List.eq_nil_of_length_eq_zero h0
    subst this
    refine ⟨1, ?_⟩
    rw [laws_markIntS.l0, if_neg (by simp)]
    rfl
  | succ d ih =>
    intro done rest c h0 h1
    obtain ⟨x, t, rfl⟩ : ∃ x t, rest = x :: t := by
      cases rest with
      | nil => simp at h0
      | cons x t => exact ⟨x, t, rfl⟩
    have h2 : t.length = d := by simpa using h0
    obtain ⟨k, hk⟩ := ih (done ++ [c]) t (wrap64 (c + 1)) h2 (by rw [List.length_append, List.length_singleton]; omega)
    refine ⟨k + 1, ?_⟩
    have e : (done ++ x :: t).set ((done.length : Int)).toNat c = (done ++ [c]) ++ t := by
      rw [Int.toNat_natCast]
      simp
    have hw : wrap64 ((done.length : Int) + 1) = ((done ++ [c]).length : Int) := by
      rw [List.length_append, List.length_singleton]
      unfold wrap64
      omega
    rw [laws_markIntS.l0, if_pos (by simp; omega), if_pos (by omega), e, hw, hk]
    simp only [seqS, endS, List.append_assoc, List.singleton_append]
theorem markS_some (l : List Int) (c : Int) (hl : l.length ≤ 9223372036854775807) : ∃ k, laws_markIntS.f k l c = some (endS l.length c, seqS l.length c) := by
  obtain ⟨k, hk⟩ := markS_loop l.length [] l c rfl (by simpa using hl)
  exact ⟨k, by unfold laws_markIntS.f; simpa only [List.nil_append, List.length_nil, Int.natCast_zero] using hk⟩
def markSS : List (List Int) → Int → Int × List (List Int)
  | [], k => (k, [])
  | l :: t, k => ((markSS t (endS l.length k)).1, seqS l.length k :: (markSS t (endS l.length k)).2)
def laws_markIntSS.f (l0 : List (List Int)) (a1 : Int) : Option (Int × List (List Int)) := some (markSS l0 a1)
theorem set_midS {α : Type} (done : List α) (l : List α) (m : Nat) (hd : done.length = m) (hm : m < l.length) (x : α) : (done ++ l.drop m).set m x = (done ++ [x]) ++ l.drop (m + 1) := by
  subst hd
  rw [List.drop_eq_getElem_cons hm, List.set_append_right _ _ (Nat.le_refl _), Nat.sub_self, List.set_cons_zero, List.append_assoc, List.singleton_append]
set_option maxRecDepth 100000 in
set_option maxHeartbeats 2000000 in
theorem laws_markIntSS.calls (P0_ : Nat → Prop) (u9000_ : Value) (l0 : List (List Int)) (a1 : Int) (r1 : Int) (r2 : List (List Int)) (w0 w : World) (hB : Below w0.heap.size w0 w) (ho0 : Kd.S (Kd.slice 3 (Kd.int .i64)) 25 w w0.heap.size P0_ u9000_ l0) (h : laws_markIntSS.f l0 a1 = some (r1, r2)) :
    Calls Tryz.prog 18 #[u9000_, .int .i64 a1] w fun e w' => e = .returned (.int .i64 r1) ∧ Kd.S (Kd.slice 3 (Kd.int .i64)) 25 w' w0.heap.size (fun k_ => (P0_ k_ ∨ w.heap.size ≤ k_)) u9000_ r2 ∧ Below w0.heap.size w0 w' ∧ Kept w w' (fun k_ => P0_ k_) := by
  have HO := Aside0.mk (show Kd.S (Kd.slice 3 (Kd.int .i64)) 25 w w0.heap.size (fun k_ => (P0_ k_ ∨ w.heap.size ≤ k_)) u9000_ l0 from Kd.S_mono ho0 (fun k_ hk => (.inl hk)))
  unfold laws_markIntSS.f at h
  have H' := Aside0.mk (Option.some.inj h)
  obtain ⟨A, c, e0⟩ := Kd.S_slice ho0
  have HL := Aside0.mk (show l0.length ≤ 9223372036854775807 by
    obtain ⟨A', c', _, _, hc⟩ := Kd.S_reads ho0
    exact hc.2.1)
  have HB0 := Aside0.mk hB
  clear h hB ho0
  subst e0
  go_enter Tryz.func18, Tryz.ntmps18
  go_wp2
  go_loopg [5, 1, 6] (l0.length + 1) (fun kq v5 v1 v6 w' => ∃ (m : Nat) (kk : Int) (done : List (List Int)), v5 = .int .i64 m ∧ v1 = .int .i64 kk ∧ Aside0 (m ≤ l0.length) ∧ Aside0 (kq = l0.length - m + 1) ∧ Aside0 (done.length = m) ∧ Aside0 ((markSS (l0.drop m) kk).1 = r1 ∧ done ++ (markSS (l0.drop m) kk).2 = r2) ∧ Aside0 (Kd.S (Kd.slice 3 (Kd.int .i64)) 25 w' w0.heap.size (fun k_ => (P0_ k_ ∨ w.heap.size ≤ k_)) (.slice A l0.length c) (done ++ l0.drop m)) ∧ Aside0 (Below w0.heap.size w0 w') ∧ Aside0 (Kept w w' (fun k_ => P0_ k_)))
  case atStart => exact ⟨0, a1, [], rfl, rfl, ⟨Nat.zero_le _⟩, ⟨by omega⟩, ⟨rfl⟩, ⟨by rw [List.drop_zero, H'.out]; exact ⟨rfl, rfl⟩⟩, ⟨by rw [List.drop_zero]; exact HO.out⟩, HB0, ⟨Kept.refl _ _⟩⟩
  case round =>
    clear H' HO HB0
    obtain ⟨m, kk, done, rfl, rfl, HM, HK1, HD, HA, HO, HB, HK⟩ := hrel
    have HN := Aside0.mk (show (done ++ l0.drop m).length = l0.length by rw [List.length_append, List.length_drop, HD.out]; have := HM.out; omega)
    by_cases c1 : m < l0.length
    · have q1 : (m : Int) < (l0.length : Int) := by omega
      obtain ⟨g, cap, eg, gb, gl, HG⟩ := Kd.S_form HO.out (by rw [HN.out]; omega)
      rw [HN.out] at eg
      injection eg with eA _ ec
      subst eA; subst ec
      obtain ⟨oki, cs, hcl, hM, hcc, hoki, HH⟩ := Kd.S_lend HO.out ([] : List Int) (m : Int) (by omega) q1
      obtain ⟨v, rfl, hR⟩ := hM
      have hrow : (done ++ l0.drop m).getD (m : Int).toNat [] = l0[m] := by
        rw [Int.toNat_natCast, List.getD_eq_getElem?_getD, List.getElem?_append_right (by rw [HD.out]; exact Nat.le_refl _), HD.out, Nat.sub_self, List.getElem?_drop, Nat.add_zero, List.getElem?_eq_getElem c1, Option.getD_some]
      rw [hrow] at hR
      have hx0 := hcc 0 _ rfl
      rw [Int.toNat_natCast, show (Kd.slice 3 (Kd.int .i64)).sz = 1 from rfl, Nat.mul_one, Nat.add_zero] at hx0
      have hll : (l0[m]).length ≤ 9223372036854775807 := by
        obtain ⟨A', c', _, _, hc⟩ := Kd.R_reads hR
        exact hc.2.1
      obtain ⟨kf, hf⟩ := markS_some l0[m] kk hll
      have HF := Aside0.mk hf
      have HRo := Aside0.mk hR
      have HHo := Aside0.mk HH
      have HOk := Aside0.mk hoki
      have HE := Aside0.mk (set_midS done l0 m HD.out c1 (seqS (l0[m]).length kk))
      have H2 : Aside0 ((markSS (l0.drop (m + 1)) (endS (l0[m]).length kk)).1 = r1 ∧ (done ++ [seqS (l0[m]).length kk]) ++ (markSS (l0.drop (m + 1)) (endS (l0[m]).length kk)).2 = r2) := ⟨by
        have e_ := HA.out
        rw [List.drop_eq_getElem_cons c1] at e_
        simp only [markSS] at e_
        rw [List.append_assoc, List.singleton_append]
        exact e_⟩
      obtain ⟨Av, cv, ev⟩ := Kd.R_slice hR
      subst ev
      generalize hk2 : endS (l0[m]).length kk = k2 at HF H2
      generalize hs2 : seqS (l0[m]).length kk = s2 at HF H2 HE
      generalize l0[m] = row at HF HRo hx0 HHo
      clear HA hcc hcl gl HG gb hR HH hoki hf hk2 hs2 hrow hll
      have c1b : decide ((m : Int) < (l0.length : Int)) = true := decide_eq_true q1
      have c1c : decide (m < l0.length) = true := decide_eq_true c1
      have p1 : (0 : Int) ≤ (m : Int) := by omega
      have hw1 : (m : Int) + 1 ≤ 9223372036854775807 := by have := HL.out; omega
      replace p1 := eq_true p1
      replace q1 := eq_true q1
      clear c1
      go_wp2_with (go_at_call 17; refine (laws_markIntS.calls kf oki _ row kk _ _ w0 wr HB.out HRo.out HF.out).mono ?_; rintro e w2 ⟨rfl, hy, hb, hkp⟩; have HS := Aside0.mk (Kd.H_back (Kd.H_kept HHo.out hkp (fun _ _ hn => hn)) (x' := s2) ⟨_, rfl, Kd.R_reok rfl hy (fun k_ e_ => HRo.out.1 k_ e_)⟩ (fun _ hk => hk)); have HB2 := Aside0.mk hb; have HK2 : Aside0 (Kept w w2 (fun k_ => P0_ k_)) := ⟨⟨Nat.le_trans HK.out.1 hkp.1, fun i hi hn => (hkp.2 i (Nat.lt_of_lt_of_le hi HK.out.1) (fun ho => (HOk.out i ho).1.elim hn (fun h3 => by omega))).trans (HK.out.2 i hi hn)⟩⟩; clear hy hb hkp)
      go_roundg (l0.length - m)
      case measure => have := HK1.out; have := HM.out; omega
      case rel => exact ⟨m + 1, _, done ++ [s2], by first | rfl | (simp; done) | go_num, rfl, ⟨by have := of_eq_true q1; omega⟩, ⟨by have := of_eq_true q1; omega⟩, ⟨by rw [List.length_append, HD.out]; rfl⟩, H2, ⟨by rw [← HE.out]; rw [← Int.toNat_natCast m]; exact HS.out⟩, HB2, HK2⟩
    · have q1 : ¬ (m : Int) < (l0.length : Int) := by omega
      have c1b : decide ((m : Int) < (l0.length : Int)) = false := decide_eq_false q1
      have c1c : decide (m < l0.length) = false := decide_eq_false c1
      have H3 : Aside0 (kk = r1 ∧ done ++ l0.drop m = r2) := ⟨by
        have e_ := HA.out
        rw [List.drop_eq_nil_of_le (show l0.length ≤ m by omega)] at e_ ⊢
        exact e_⟩
      clear HA c1 q1
      go_wp2
      go_ret
      exact ⟨by have e_ := H3.out.1; subst e_; rfl, by rw [← H3.out.2]; exact HO.out, HB.out, HK.out⟩
end Go.Proofs.YtadjbmcfgjmhkaaGreat.P
namespace Go.Proofs.YtadjbmcfgjmhkaaGreat.P
open Go.RowKit Go.Proofs.YtadjbmcfgjmhkaaGreatW.PrintWords Go.Proofs.YtadjbmcfgjmhkaaGreatW.PrintLast Go.Proofs.YtadjbmcfgjmhkaaGreatW.PrintMore
attribute [local go_sem] max2_int min2_int max_two min_two max_three min_three max_four min_four   -- for this text's walks alone
set_option linter.unusedVariables false
set_option linter.unusedSimpArgs false

/-! ### laws_heldIntS: function 26 -/
def laws_heldIntS.l0 : Nat → List Int → Int → Int → Option (Int)
 | 0, _, _, _ => none
 | k + 1, x0, x1, x5 => if x5 < (x0.length : Int) then (if 0 ≤ x5 then (if (rd x0 x5) = x1 then (laws_heldIntS.l0 k x0 (wrap64 (x1 + 1)) (wrap64 (x5 + 1))) else (some (-1))) else (none)) else (some x1)
def laws_heldIntS.f (k : Nat) (l0 : List Int) (a1 : Int) : Option (Int) := laws_heldIntS.l0 k l0 a1 0
set_option maxHeartbeats 8000000 in
set_option maxRecDepth 100000 in
theorem laws_heldIntS.calls (k : Nat) (A0 : Option Addr) (c0 : Nat) (l0 : List Int) (a1 : Int) (r : Int) (w : World) (hr0 : Kd.C (Kd.int .i64) w A0 l0.length l0) (hc0 : l0.length ≤ c0) (h : laws_heldIntS.f k l0 a1 = some r) :
 Calls Tryz.prog 26 #[.slice A0 l0.length c0, .int .i64 a1] w fun e w' => e = .returned (.int .i64 r) ∧ Drawn0 w w' := by
 have HR0 := Aside0.mk hr0
 have HC0 := Aside0.mk hc0
 clear hr0 hc0
 have H : (laws_heldIntS.l0 k l0 a1 0) = some r := h
 clear h
 have H' := Aside0.mk H
 clear H
 go_enter Tryz.func26, Tryz.ntmps26
 go_wp2
 go_loopg [1, 5] k (fun kq v1 v5 w' => ∃ (x1_1 : Int) (x5_1 : Int), v1 = .int .i64 x1_1 ∧ v5 = .int .i64 x5_1 ∧ Aside0 (laws_heldIntS.l0 kq l0 x1_1 x5_1 = some r) ∧ Aside0 (kq ≤ k) ∧ Drawn0 w w')
 case atStart => exact ⟨(a1), (0), (by first | rfl | (simp; done) | (simp [*]; done)), (by first | rfl | (simp; done) | (simp [*]; done)), H', ⟨Nat.le_refl _⟩, by repeat (first | exact Drawn0.refl _ | apply Drawn0.step)⟩
 case round =>
  clear H'
  try clear c2
  try clear p2
  obtain ⟨x1_1, x5_1, rfl, rfl, HA, HK1, ⟨m1, rfl⟩⟩ := hrel
  cases gk with
  | zero => exact absurd HA.out (by simp [laws_heldIntS.l0])
  | succ k1 =>
   have H := HA.out
   clear HA
   simp only [laws_heldIntS.l0] at H
   by_cases c3 : x5_1 < (l0.length : Int)
   · rw [if_pos c3] at H
     have c3b0 := decide_eq_true c3
     clear c3
     by_cases c4 : 0 ≤ x5_1
     · rw [if_pos c4] at H
       have c4b0 := decide_eq_true c4
       clear c4
       by_cases c5 : (rd l0 x5_1) = x1_1
       · rw [if_pos c5] at H
         have c5b0 : ((rd l0 x5_1) == x1_1) = true := beq_iff_eq.mpr c5
         have c5b1 : ((rd l0 x5_1) != x1_1) = false := bne_eq_false_iff_eq.mpr c5
         clear c5
         have H' := Aside0.mk H
         clear H
         have p136 : 0 ≤ (x5_1 : Int) := of_decide_eq_true zA
         have q136 : x5_1 < (l0.length : Int) := of_decide_eq_true zA
         obtain ⟨ad136, e136, hx136_0⟩ := Kd.at_int HR0.out x5_1 p136 q136
         cases e136
         replace p136 := eq_true p136
         replace q136 := eq_true q136
         go_wp2
         go_roundg k1
         case measure => have := HK1.out; omega
         case rel => exact ⟨(wrap64 (x1_1 + 1)), (wrap64 (x5_1 + 1)), (by first | rfl | (simp; done) | (simp [*]; done)), (by first | rfl | (simp; done) | (simp [*]; done)), H', ⟨by have := HK1.out; omega⟩, by repeat (first | exact Drawn0.refl _ | apply Drawn0.step)⟩
       · rw [if_neg c5] at H
         have c5b0 : ((rd l0 x5_1) == x1_1) = false := beq_eq_false_iff_ne.mpr c5
         have c5b1 : ((rd l0 x5_1) != x1_1) = true := bne_iff_ne.mpr c5
         obtain rfl := Option.some.inj H
         have p136 : 0 ≤ (x5_1 : Int) := of_decide_eq_true zA
         have q136 : x5_1 < (l0.length : Int) := of_decide_eq_true zA
         obtain ⟨ad136, e136, hx136_0⟩ := Kd.at_int HR0.out x5_1 p136 q136
         cases e136
         replace p136 := eq_true p136
         replace q136 := eq_true q136
         go_wp2
         go_ret
         exact ⟨by first | rfl | (simp; done) | (simp [*]; done), by repeat (first | exact Drawn0.refl _ | apply Drawn0.step)⟩
     · rw [if_neg c4] at H
       exact absurd H (by simp)
   · rw [if_neg c3] at H
     have c3b0 : decide (x5_1 < (l0.length : Int)) = false := decide_eq_false c3
     clear c3
     obtain rfl := Option.some.inj H
     go_wp2
     go_ret
     exact ⟨by first | rfl | (simp; done) | (simp [*]; done), by repeat (first | exact Drawn0.refl _ | apply Drawn0.step)⟩

end Go.Proofs.YtadjbmcfgjmhkaaGreat.P
namespace Go.Proofs.YtadjbmcfgjmhkaaGreat.P
open Go.RowKit Go.Proofs.YtadjbmcfgjmhkaaGreatW.PrintWords Go.Proofs.YtadjbmcfgjmhkaaGreatW.PrintLast Go.Proofs.YtadjbmcfgjmhkaaGreatW.PrintMore
attribute [local go_sem] max2_int min2_int max_two min_two max_three min_three max_four min_four   -- for this text's walks alone
set_option linter.unusedVariables false
set_option linter.unusedSimpArgs false

/-! ### laws_heldIntSS: function 19 -/
def laws_heldIntSS.l0 : Nat → List (List Int) → Int → Int → Option (Int)
 | 0, _, _, _ => none
 | k + 1, x0, x1, x5 => if x5 < (x0.length : Int) then (if 0 ≤ x5 then ((laws_heldIntS.f k (rd_L2 x0 x5) x1).bind fun t138 => (if t138 < 0 then (some (-1)) else (laws_heldIntSS.l0 k x0 t138 (wrap64 (x5 + 1))))) else (none)) else (some x1)
def laws_heldIntSS.f (k : Nat) (l0 : List (List Int)) (a1 : Int) : Option (Int) := laws_heldIntSS.l0 k l0 a1 0
set_option maxHeartbeats 8000000 in
set_option maxRecDepth 100000 in
theorem laws_heldIntSS.calls (k : Nat) (A0 : Option Addr) (c0 : Nat) (l0 : List (List Int)) (a1 : Int) (r : Int) (w : World) (hr0 : Kd.C (Kd.slice 3 (Kd.int .i64)) w A0 l0.length l0) (hc0 : l0.length ≤ c0) (h : laws_heldIntSS.f k l0 a1 = some r) :
 Calls Tryz.prog 19 #[.slice A0 l0.length c0, .int .i64 a1] w fun e w' => e = .returned (.int .i64 r) ∧ Drawn0 w w' := by
 have HR0 := Aside0.mk hr0
 have HC0 := Aside0.mk hc0
 clear hr0 hc0
 have H : (laws_heldIntSS.l0 k l0 a1 0) = some r := h
 clear h
 have H' := Aside0.mk H
 clear H
 go_enter Tryz.func19, Tryz.ntmps19
 go_wp2
 go_loopg [1, 5] k (fun kq v1 v5 w' => ∃ (x1_1 : Int) (x5_1 : Int), v1 = .int .i64 x1_1 ∧ v5 = .int .i64 x5_1 ∧ Aside0 (laws_heldIntSS.l0 kq l0 x1_1 x5_1 = some r) ∧ Aside0 (kq ≤ k) ∧ Drawn0 w w')
 case atStart => exact ⟨(a1), (0), (by first | rfl | (simp; done) | (simp [*]; done)), (by first | rfl | (simp; done) | (simp [*]; done)), H', ⟨Nat.le_refl _⟩, by repeat (first | exact Drawn0.refl _ | apply Drawn0.step)⟩
 case round =>
  clear H'
  try clear c1
  try clear p2
  obtain ⟨x1_1, x5_1, rfl, rfl, HA, HK1, ⟨m1, rfl⟩⟩ := hrel
  cases gk with
  | zero => exact absurd HA.out (by simp [laws_heldIntSS.l0])
  | succ k1 =>
   have H := HA.out
   clear HA
   simp only [laws_heldIntSS.l0] at H
   by_cases c3 : x5_1 < (l0.length : Int)
   · rw [if_pos c3] at H
     have c3b0 := decide_eq_true c3
     clear c3
     by_cases c4 : 0 ≤ x5_1
     · rw [if_pos c4] at H
       have c4b0 := decide_eq_true c4
       clear c4
       replace H := Option.bind_eq_some_iff.mp H
       obtain ⟨t138, A50, H⟩ := H
       have A5 := Aside0.mk A50
       clear A50
       by_cases c6 : t138 < 0
       · rw [if_pos c6] at H
         have c6b0 := decide_eq_true c6
         clear c6
         obtain rfl := Option.some.inj H
         have p137 : 0 ≤ (x5_1 : Int) := of_decide_eq_true zA
         have q137 : x5_1 < (l0.length : Int) := of_decide_eq_true zA
         obtain ⟨ad137, A137_0, c137_0, e137, hx137_0, hl137_0, hi137_0⟩ := at_L2 HR0.out x5_1 p137 q137
         cases e137
         have HR137_0 := Aside0.mk hi137_0
         have HC137_0 := Aside0.mk hl137_0
         clear hi137_0 hl137_0
         replace p137 := eq_true p137
         replace q137 := eq_true q137
         go_wp2_with (first | ((with_reducible refine gate_callee (f := 26) rfl ?_); refine zc 17 Tryz.func26 #[.slice A137_0 (rd_L2 l0 x5_1).length c137_0, .int .i64 x1_1] ?_; (with_reducible refine (laws_heldIntS.calls k1 _ _ (rd_L2 l0 x5_1) x1_1 t138 _ ?side1 ?side2 A5.out).mono ?_); (case side1 => exact zC HR137_0.out); (case side2 => exact HC137_0.out); rintro e w' ⟨rfl, ⟨nd, rfl⟩⟩; refine ⟨_, rfl, ?_⟩))
         go_ret
         exact ⟨by first | rfl | (simp; done) | (simp [*]; done), by repeat (first | exact Drawn0.refl _ | apply Drawn0.step)⟩
       · rw [if_neg c6] at H
         have c6b0 : decide (t138 < 0) = false := decide_eq_false c6
         clear c6
         have H' := Aside0.mk H
         clear H
         have p137 : 0 ≤ (x5_1 : Int) := of_decide_eq_true zA
         have q137 : x5_1 < (l0.length : Int) := of_decide_eq_true zA
         obtain ⟨ad137, A137_0, c137_0, e137, hx137_0, hl137_0, hi137_0⟩ := at_L2 HR0.out x5_1 p137 q137
         cases e137
         have HR137_0 := Aside0.mk hi137_0
         have HC137_0 := Aside0.mk hl137_0
         clear hi137_0 hl137_0
         replace p137 := eq_true p137
         replace q137 := eq_true q137
         go_wp2_with (first | ((with_reducible refine gate_callee (f := 26) rfl ?_); refine zc 17 Tryz.func26 #[.slice A137_0 (rd_L2 l0 x5_1).length c137_0, .int .i64 x1_1] ?_; (with_reducible refine (laws_heldIntS.calls k1 _ _ (rd_L2 l0 x5_1) x1_1 t138 _ ?side1 ?side2 A5.out).mono ?_); (case side1 => exact zC HR137_0.out); (case side2 => exact HC137_0.out); rintro e w' ⟨rfl, ⟨nd, rfl⟩⟩; refine ⟨_, rfl, ?_⟩))
         go_roundg k1
         case measure => have := HK1.out; omega
         case rel => exact ⟨(t138), (wrap64 (x5_1 + 1)), (by first | rfl | (simp; done) | (simp [*]; done)), (by first | rfl | (simp; done) | (simp [*]; done)), H', ⟨by have := HK1.out; omega⟩, by repeat (first | exact Drawn0.refl _ | apply Drawn0.step)⟩
     · rw [if_neg c4] at H
       exact absurd H (by simp)
   · rw [if_neg c3] at H
     have c3b0 : decide (x5_1 < (l0.length : Int)) = false := decide_eq_false c3
     clear c3
     obtain rfl := Option.some.inj H
     go_wp2
     go_ret
     exact ⟨by first | rfl | (simp; done) | (simp [*]; done), by repeat (first | exact Drawn0.refl _ | apply Drawn0.step)⟩

end Go.Proofs.YtadjbmcfgjmhkaaGreat.P
namespace Go.Proofs.YtadjbmcfgjmhkaaGreat.P
open Go.RowKit Go.Proofs.YtadjbmcfgjmhkaaGreatW.PrintWords Go.Proofs.YtadjbmcfgjmhkaaGreatW.PrintLast Go.Proofs.YtadjbmcfgjmhkaaGreatW.PrintMore
set_option linter.unusedVariables false
set_option linter.unusedSimpArgs false
set_option maxRecDepth 100000 in
set_option maxHeartbeats 4000000 in
theorem laws_FnExactStuckSets.exit0 (a0_0 : Int) (A0_1 : Option Addr) (ca0_1 : Nat) (l0_1 : List (S69)) (a1 : Int) (t0 : Int) (w : World) (hr0_1 : Kd.C k69 w A0_1 l0_1.length l0_1) (hc0_1 : l0_1.length ≤ ca0_1) (c0 : t0 < 0) (h0 : laws_szGraph.f a0_0 l0_1 1048576 = some t0) :
    Calls Tryz.prog 5 #[.agg #[.int .i64 a0_0, .slice A0_1 l0_1.length ca0_1], .int .i64 a1] w fun e w' => e = .returned (.bool true) ∧ Below w.heap.size w w' := by
  have hu24 := Tryz.underlying24
  have hu30 := Tryz.underlying30
  have HR0_1 := zM hr0_1; clear hr0_1
  have HC0_1 := zM hc0_1; clear hc0_1
  have HB := zM (Below.refl w.heap.size w)
  have H0 := zM h0; clear h0
  have c0b : decide (t0 < 0) = true := decide_eq_true c0
  clear c0
  go_enter Tryz.func5, Tryz.ntmps5
  go_wp2_with (first
    | ((with_reducible refine gate_dst (N := 2) rfl ?_); refine ze 2 #[.int .i64 a0_0, .slice A0_1 l0_1.length ca0_1] 24 ?_; intro gb2 hg w1 hbox hb; have HG2 := zM hg; have HW2 := zM (show w.heap.size ≤ gb2 by rw [hg]; exact below_size HB.out); have HL2 := zM (blk_lt hbox); clear hg; have HS1 := zM hb.size; replace HB := zM (below_step HB.out hb); have BK2 := zM hbox; clear hbox hb; have hc2_0 := zy BK2 0; have hf2_0 := blk_frozen BK2.out 0; have hc2_1 := zy BK2 1; have hf2_1 := blk_frozen BK2.out 1)
    | (have hst_ : Aside0 (Below w.heap.size w w1) := HB; clear hst_; go_at_call 8; refine (laws_szGraph.calls a0_0 _ _ l0_1 1048576 t0 _ ?side1 ?side2 H0.out).mono ?_; (case side1 => exact zC (Kd.C_below HR0_1.out HB.out)); (case side2 => exact HC0_1.out); rintro e w2 ⟨rfl, hb⟩; replace BK2 := uKb BK2 hb; have HS2 := zM hb.size; replace HB := zM (below_step HB.out hb); clear hb; replace hc2_0 := zy BK2 0; replace hf2_0 := blk_frozen BK2.out 0; replace hc2_1 := zy BK2 1; replace hf2_1 := blk_frozen BK2.out 1))
  go_ret
  exact ⟨rfl, HB.out⟩
set_option maxRecDepth 100000 in
set_option maxHeartbeats 4000000 in
theorem laws_FnExactStuckSets.walk (a0_0 : Int) (A0_1 : Option Addr) (ca0_1 : Nat) (l0_1 : List (S69)) (a1 : Int) (k1 k2 k3 k4 k5 k8 : Nat) (t0 : Int) (q0 : List (List Int)) (q1 : Bool) (kk0 : Int) (mk0_0 : List (S69)) (kk1 : Int) (mk1_0 : List (List Int)) (w : World) (hr0_1 : Kd.C k69 w A0_1 l0_1.length l0_1) (hc0_1 : l0_1.length ≤ ca0_1) (c0 : ¬ (t0 < 0)) (h0 : laws_szGraph.f a0_0 l0_1 1048576 = some t0) (h1 : laws_toGraph.f k1 a0_0 l0_1 = some (a0_0, l0_1)) (h2 : spec_StuckSets.f k2 a0_0 l0_1 a1 = some (q0, q1)) (h3 : impl_StuckSets.f k3 a0_0 l0_1 a1 = some (q0, q1)) (h4 : laws_eqIntSS.f k4 q0 q0 = some true) (h5 : laws_eqGraph.f k5 a0_0 l0_1 a0_0 l0_1 = some true) (h6 : laws_markGraph.f a0_0 l0_1 1 = some (kk0, mk0_0)) (h7 : laws_markIntSS.f q0 1 = some (kk1, mk1_0)) (h8 : laws_heldIntSS.f k8 mk1_0 1 = some kk1) (nkk0 : ¬ (kk0 < 0)) (nkk1 : ¬ (kk1 < 0)) :
    Calls Tryz.prog 5 #[.agg #[.int .i64 a0_0, .slice A0_1 l0_1.length ca0_1], .int .i64 a1] w fun e w' => e = .returned (.bool true) ∧ Below w.heap.size w w' := by
  have hu24 := Tryz.underlying24
  have hu30 := Tryz.underlying30
  have HR0_1 := zM hr0_1; clear hr0_1
  have HC0_1 := zM hc0_1; clear hc0_1
  have HB := zM (Below.refl w.heap.size w)
  have H0 := zM h0; clear h0
  have H1 := zM h1; clear h1
  have H2 := zM h2; clear h2
  have H3 := zM h3; clear h3
  have H4 := zM h4; clear h4
  have H5 := zM h5; clear h5
  have H6 := zM h6; clear h6
  have H7 := zM h7; clear h7
  have H8 := zM h8; clear h8
  have c0b : decide (t0 < 0) = false := decide_eq_false c0
  clear c0
  have nkk0b : decide (kk0 < 0) = false := decide_eq_false nkk0
  clear nkk0
  have nkk1b : decide (kk1 < 0) = false := decide_eq_false nkk1
  clear nkk1
  go_enter Tryz.func5, Tryz.ntmps5
  go_upto_region 10 with (first
    | ((with_reducible refine gate_dst (N := 2) rfl ?_); refine ze 2 #[.int .i64 a0_0, .slice A0_1 l0_1.length ca0_1] 24 ?_; intro gb2 hg w1 hbox hb; have HG2 := zM hg; have HW2 := zM (show w.heap.size ≤ gb2 by rw [hg]; exact below_size HB.out); have HL2 := zM (blk_lt hbox); clear hg; have HS1 := zM hb.size; replace HB := zM (below_step HB.out hb); have BK2 := zM hbox; clear hbox hb; have hc2_0 := zy BK2 0; have hf2_0 := blk_frozen BK2.out 0; have hc2_1 := zy BK2 1; have hf2_1 := blk_frozen BK2.out 1)
    | (have hst_ : Aside0 (Below w.heap.size w w1) := HB; clear hst_; go_at_call 8; refine (laws_szGraph.calls a0_0 _ _ l0_1 1048576 t0 _ ?side1 ?side2 H0.out).mono ?_; (case side1 => exact zC (Kd.C_below HR0_1.out HB.out)); (case side2 => exact HC0_1.out); rintro e w2 ⟨rfl, hb⟩; replace BK2 := uKb BK2 hb; have HS2 := zM hb.size; replace HB := zM (below_step HB.out hb); clear hb; replace hc2_0 := zy BK2 0; replace hf2_0 := blk_frozen BK2.out 0; replace hc2_1 := zy BK2 1; replace hf2_1 := blk_frozen BK2.out 1)
    | (have hst_ : Aside0 (Below w.heap.size w w2) := HB; clear hst_; go_at_call 10; refine (laws_toGraph.calls k1 a0_0 _ _ l0_1 a0_0 l0_1 _ ?side1 ?side2 H1.out).mono ?_; (case side1 => exact zC (Kd.C_below HR0_1.out HB.out)); (case side2 => exact HC0_1.out); rintro e w3 ⟨v0_0, rfl, ho0, hb⟩; replace BK2 := uKb BK2 hb; have HS3 := zM hb.size; have HO0_0 := uR HB.out (by first | exact ho0 | exact Kd.R_mono ho0 (fun _ _ => trivial) | exact Kd.R_mono ho0 (fun _ hk_ => hk_.1)); clear ho0; obtain ⟨Ao0_0, co0_0, eo0_0⟩ := Kd.R_slice HO0_0.out; subst eo0_0; replace HB := zM (below_step HB.out hb); clear hb; replace hc2_0 := zy BK2 0; replace hf2_0 := blk_frozen BK2.out 0; replace hc2_1 := zy BK2 1; replace hf2_1 := blk_frozen BK2.out 1)
    | (have hst_ : Aside0 (Below w.heap.size w w3) := HB; clear hst_; go_at_call 22; refine (spec_StuckSets.calls k2 a0_0 _ _ l0_1 a1 q0 q1 _ ?side1 ?side2 H2.out).mono ?_; (case side1 => exact zC (Kd.R_reads' HO0_0.out).2.2); (case side2 => exact (Kd.R_reads' HO0_0.out).2.1); clear HO0_0; rintro e w4 ⟨v1_0, rfl, ho0, hb⟩; replace BK2 := uKb BK2 hb; have HS4 := zM hb.size; have HO1_0 := uN HB.out (by first | exact ho0 | exact Kd.N_mono ho0 (fun _ _ => trivial) | exact Kd.N_mono ho0 (fun _ hk_ => hk_.1)); clear ho0; obtain ⟨Ao1_0, co1_0, eo1_0⟩ := Kd.N_slice HO1_0.out; subst eo1_0; replace HB := zM (below_step HB.out hb); clear hb; replace hc2_0 := zy BK2 0; replace hf2_0 := blk_frozen BK2.out 0; replace hc2_1 := zy BK2 1; replace hf2_1 := blk_frozen BK2.out 1)
    | (have hst_ : Aside0 (Below w.heap.size w w4) := HB; clear hst_; go_at_call 10; refine (laws_toGraph.calls k1 a0_0 _ _ l0_1 a0_0 l0_1 _ ?side1 ?side2 H1.out).mono ?_; (case side1 => exact zC (Kd.C_below HR0_1.out HB.out)); (case side2 => exact HC0_1.out); rintro e w5 ⟨v2_0, rfl, ho0, hb⟩; replace HO1_0 := uNb HO1_0 hb; replace BK2 := uKb BK2 hb; have HS5 := zM hb.size; have HO2_0 := uR HB.out (by first | exact ho0 | exact Kd.R_mono ho0 (fun _ _ => trivial) | exact Kd.R_mono ho0 (fun _ hk_ => hk_.1)); clear ho0; obtain ⟨Ao2_0, co2_0, eo2_0⟩ := Kd.R_slice HO2_0.out; subst eo2_0; replace HB := zM (below_step HB.out hb); clear hb; replace hc2_0 := zy BK2 0; replace hf2_0 := blk_frozen BK2.out 0; replace hc2_1 := zy BK2 1; replace hf2_1 := blk_frozen BK2.out 1)
    | ((with_reducible refine gate_dst (N := 8) rfl ?_); refine ze 8 #[.int .i64 0, .slice none 0 0] 30 ?_; intro gb8 hg w6 hbox hb; have HG8 := zM hg; have HW8 := zM (show w.heap.size ≤ gb8 by rw [hg]; exact below_size HB.out); have HL8 := zM (blk_lt hbox); clear hg; replace HO1_0 := uNb HO1_0 hb; replace HO2_0 := uRb HO2_0 hb; replace BK2 := uKb BK2 hb; have HS6 := zM hb.size; replace HB := zM (below_step HB.out hb); have hn2_8 : gb2 ≠ gb8 := (by have := HG8.out; have := HL2.out; have := HS2.out; have := HS3.out; have := HS4.out; have := HS5.out; omega); have hn8_2 := hn2_8.symm; have BK8 := zM hbox; clear hbox hb; replace hc2_0 := zy BK2 0; replace hf2_0 := blk_frozen BK2.out 0; replace hc2_1 := zy BK2 1; replace hf2_1 := blk_frozen BK2.out 1; have hc8_0 := zy BK8 0; have hf8_0 := blk_frozen BK8.out 0; have hc8_1 := zy BK8 1; have hf8_1 := blk_frozen BK8.out 1)
    | (have hst_ : Aside0 (Below w.heap.size w w6) := HB; clear hst_; go_at_call 23; refine uBox BK8 HB HW8.out ?_; intro w7 BKn hk HBn; replace HO1_0 := uNk HO1_0 hk (fun k_ hk_ e_ => by have e2 : k_ = gb8 := e_; have := HG8.out; have := HL8.out; have h2 : w3.heap.size ≤ k_ ∧ k_ < w4.heap.size := hk_; have := HS5.out; omega); replace HO2_0 := uRk HO2_0 hk (fun k_ hk_ e_ => by have e2 : k_ = gb8 := e_; have := HG8.out; have := HL8.out; have h2 : w4.heap.size ≤ k_ ∧ k_ < w5.heap.size := hk_; omega); replace BK2 := uKk BK2 hk (fun e_ => by have e2 : gb2 = gb8 := e_; have := HG8.out; have := HL8.out; have := HG2.out; have := HL2.out; have := HS2.out; have := HS3.out; have := HS4.out; have := HS5.out; omega); replace BK8 := BKn; replace HB := HBn; clear BKn HBn; have HS7 := zM hk.1; clear hk; refine (impl_StuckSets.calls k3 a0_0 _ _ l0_1 a1 q0 q1 _ ?side1 ?side2 H3.out).mono ?_; (case side1 => exact zC (Kd.R_reads' HO2_0.out).2.2); (case side2 => exact (Kd.R_reads' HO2_0.out).2.1); rintro e w8 ⟨v3_0, rfl, ho0, hb⟩; replace HO1_0 := uNb HO1_0 hb; replace HO2_0 := uRb HO2_0 hb; replace BK2 := uKb BK2 hb; replace BK8 := uKb BK8 hb; have HS8 := zM hb.size; have HO3_0 := uS HB.out (by first | exact ho0 | exact Kd.S_mono ho0 (fun _ _ => trivial) | exact Kd.S_mono ho0 (fun _ hk_ => hk_.1)); clear ho0; obtain ⟨Ao3_0, co3_0, eo3_0⟩ := Kd.S_slice HO3_0.out; subst eo3_0; replace HB := zM (below_step HB.out hb); clear hb; replace hc2_0 := zy BK2 0; replace hf2_0 := blk_frozen BK2.out 0; replace hc2_1 := zy BK2 1; replace hf2_1 := blk_frozen BK2.out 1; replace hc8_0 := zy BK8 0; replace hf8_0 := blk_frozen BK8.out 0; replace hc8_1 := zy BK8 1; replace hf8_1 := blk_frozen BK8.out 1)
    | (have hst_ : Aside0 (Below w.heap.size w w8) := HB; clear hst_; go_at_call 13; refine (laws_eqIntSS.calls k4 _ _ q0 _ _ q0 true _ ?side1 ?side2 ?side3 ?side4 H4.out).mono ?_; (case side1 => exact zC (Kd.S_reads' HO3_0.out).2.2); (case side2 => exact (Kd.S_reads' HO3_0.out).2.1); (case side3 => exact zC (Kd.N_reads' HO1_0.out).2.2); (case side4 => exact (Kd.N_reads' HO1_0.out).2.1); rintro e w9 ⟨rfl, hb0⟩; have hb := hb0.below; clear hb0; replace HO1_0 := uNb HO1_0 hb; replace HO2_0 := uRb HO2_0 hb; replace HO3_0 := uSb HO3_0 hb; replace BK2 := uKb BK2 hb; replace BK8 := uKb BK8 hb; have HS9 := zM hb.size; replace HB := zM (below_step HB.out hb); clear hb; replace hc2_0 := zy BK2 0; replace hf2_0 := blk_frozen BK2.out 0; replace hc2_1 := zy BK2 1; replace hf2_1 := blk_frozen BK2.out 1; replace hc8_0 := zy BK8 0; replace hf8_0 := blk_frozen BK8.out 0; replace hc8_1 := zy BK8 1; replace hf8_1 := blk_frozen BK8.out 1))
  (try simp only [Act.put, List.setIfInBounds_toArray, List.set_cons_zero, List.set_cons_succ])
  replace HO1_0 := zM (Kd.N_drew HO1_0.out)
  replace HO2_0 := zM (Kd.R_drew HO2_0.out)
  replace HO3_0 := zM (Kd.S_drew HO3_0.out)
  replace BK2 := zM (blk_drew BK2.out)
  replace BK8 := zM (blk_drew BK8.out)
  replace HB := zM (below_drew1 HB.out)
  refine zs (n := 5) (fun w' => w'.cell? ⟨gb8, 0, none⟩ = some (.int .i64 a0_0) ∧ w'.cell? ⟨gb8, 1, none⟩ = some (.slice Ao2_0 l0_1.length co2_0) ∧ w'.cell? ⟨gb2, 0, none⟩ = some (.int .i64 a0_0) ∧ w'.cell? ⟨gb2, 1, none⟩ = some (.slice A0_1 l0_1.length ca0_1)) ⟨(blk_cell BK8.out 0).trans rfl, (blk_cell BK8.out 1).trans rfl, (blk_cell BK2.out 0).trans rfl, (blk_cell BK2.out 1).trans rfl⟩ (fun hHeld => ?_)
  have HS10 := zM (show w9.heap.size ≤ w9.drew.heap.size from Nat.le_refl _)
  generalize w9.drew = w10 at HO1_0 HO2_0 HO3_0 BK2 BK8 HB HS10 hHeld ⊢
  refine zl 0 45 hHeld ?_ (hy := by rintro w' ⟨s0, s1, s2, s3⟩; go_simp; with_reducible rfl)
  refine zl 1 46 hHeld ?_ (hy := by rintro w' ⟨s0, s1, s2, s3⟩; go_simp; with_reducible rfl)
  refine zh 2 47 Tryz.func10 #[.agg #[.int .i64 a0_0, .slice A0_1 l0_1.length ca0_1]] (fun K hK => ?_)
  (refine (laws_toGraph.calls k1 a0_0 _ _ l0_1 a0_0 l0_1 _ ?side1 ?side2 H1.out).mono ?_; (case side1 => exact zC (Kd.C_below HR0_1.out HB.out)); (case side2 => exact HC0_1.out); rintro e w11 ⟨v4_0, rfl, ho0, hb⟩; replace HO1_0 := uNb HO1_0 hb; replace HO2_0 := uRb HO2_0 hb; replace HO3_0 := uSb HO3_0 hb; replace BK2 := uKb BK2 hb; replace BK8 := uKb BK8 hb; have HS11 := zM hb.size; have HO4_0 := uR HB.out (by first | exact ho0 | exact Kd.R_mono ho0 (fun _ _ => trivial) | exact Kd.R_mono ho0 (fun _ hk_ => hk_.1)); clear ho0; obtain ⟨Ao4_0, co4_0, eo4_0⟩ := Kd.R_slice HO4_0.out; subst eo4_0; replace HB := zM (below_step HB.out hb); clear hb)
  refine ⟨_, rfl, ?_⟩
  refine hK.out _ _ ⟨(blk_cell BK8.out 0).trans rfl, (blk_cell BK8.out 1).trans rfl, (blk_cell BK2.out 0).trans rfl, (blk_cell BK2.out 1).trans rfl⟩ (fun hHeld => ?_)
  clear hK K
  refine zn 47 ?_
  refine zh 3 48 Tryz.func14 #[.agg #[.int .i64 a0_0, .slice Ao2_0 l0_1.length co2_0], .agg #[.int .i64 a0_0, .slice Ao4_0 l0_1.length co4_0]] (fun K hK => ?_)
  (refine (laws_eqGraph.calls k5 a0_0 _ _ l0_1 a0_0 _ _ l0_1 true _ ?side1 ?side2 ?side3 ?side4 H5.out).mono ?_; (case side1 => exact zC (Kd.R_reads' HO2_0.out).2.2); (case side2 => exact (Kd.R_reads' HO2_0.out).2.1); (case side3 => exact zC (Kd.R_reads' HO4_0.out).2.2); (case side4 => exact (Kd.R_reads' HO4_0.out).2.1); clear HO4_0; rintro e w12 ⟨rfl, hb⟩; replace HO1_0 := uNb HO1_0 hb; replace HO2_0 := uRb HO2_0 hb; replace HO3_0 := uSb HO3_0 hb; replace BK2 := uKb BK2 hb; replace BK8 := uKb BK8 hb; have HS12 := zM hb.size; replace HB := zM (below_step HB.out hb); clear hb)
  refine ⟨_, rfl, ?_⟩
  refine hK.out _ _ ⟨(blk_cell BK8.out 0).trans rfl, (blk_cell BK8.out 1).trans rfl, (blk_cell BK2.out 0).trans rfl, (blk_cell BK2.out 1).trans rfl⟩ (fun hHeld => ?_)
  clear hK K
  refine zn 48 ?_
  refine zq 4 49 ?_
  refine zx ?_
  replace hc2_0 := zy BK2 0
  replace hf2_0 := blk_frozen BK2.out 0
  replace hc2_1 := zy BK2 1
  replace hf2_1 := blk_frozen BK2.out 1
  replace hc8_0 := zy BK8 0
  replace hf8_0 := blk_frozen BK8.out 0
  replace hc8_1 := zy BK8 1
  replace hf8_1 := blk_frozen BK8.out 1
  go_wp2_with (first
    | (have hst_ : Aside0 (Below w.heap.size w w12) := HB; clear hst_; go_at_call 16; refine (laws_markGraph.calls a0_0 _ _ l0_1 1 kk0 mk0_0 w w12 HB.out HO2_0.out H6.out).mono ?_; clear HO2_0; clear BK8 hc8_0 hf8_0 hc8_1 hf8_1; rintro e w13 ⟨rfl, hy0, hb2, hk⟩; replace HO1_0 := uNk HO1_0 hk (fun k_ hk_ e_ => by have e2 : w4.heap.size ≤ k_ ∧ k_ < w5.heap.size := e_; have h2 : w3.heap.size ≤ k_ ∧ k_ < w4.heap.size := hk_; omega); replace HO3_0 := uSk HO3_0 hk (fun k_ hk_ e_ => by have e2 : w4.heap.size ≤ k_ ∧ k_ < w5.heap.size := e_; have h2 : w7.heap.size ≤ k_ ∧ k_ < w8.heap.size := hk_; have := HS6.out; have := HS7.out; omega); replace BK2 := uKk BK2 hk (fun e_ => by have e2 : w4.heap.size ≤ gb2 ∧ gb2 < w5.heap.size := e_; have := HG2.out; have := HL2.out; have := HS2.out; have := HS3.out; have := HS4.out; omega); clear hy0; have HS13 := zM hk.1; replace HB := zM hb2; clear hb2 hk; replace hc2_0 := zy BK2 0; replace hf2_0 := blk_frozen BK2.out 0; replace hc2_1 := zy BK2 1; replace hf2_1 := blk_frozen BK2.out 1)
    | (have hst_ : Aside0 (Below w.heap.size w w13) := HB; clear hst_; go_at_call 13; refine (laws_eqIntSS.calls k4 _ _ q0 _ _ q0 true _ ?side1 ?side2 ?side3 ?side4 H4.out).mono ?_; (case side1 => exact zC (Kd.S_reads' HO3_0.out).2.2); (case side2 => exact (Kd.S_reads' HO3_0.out).2.1); (case side3 => exact zC (Kd.N_reads' HO1_0.out).2.2); (case side4 => exact (Kd.N_reads' HO1_0.out).2.1); rintro e w14 ⟨rfl, hb0⟩; have hb := hb0.below; clear hb0; replace HO1_0 := uNb HO1_0 hb; replace HO3_0 := uSb HO3_0 hb; replace BK2 := uKb BK2 hb; have HS14 := zM hb.size; replace HB := zM (below_step HB.out hb); clear hb; replace hc2_0 := zy BK2 0; replace hf2_0 := blk_frozen BK2.out 0; replace hc2_1 := zy BK2 1; replace hf2_1 := blk_frozen BK2.out 1)
    | (have hst_ : Aside0 (Below w.heap.size w w14) := HB; clear hst_; go_at_call 18; refine (laws_markIntSS.calls _ _ q0 1 kk1 mk1_0 w w14 HB.out HO3_0.out H7.out).mono ?_; rintro e w15 ⟨rfl, hy0, hb2, hk⟩; replace HO1_0 := uNk HO1_0 hk (fun k_ hk_ e_ => by have e2 : w7.heap.size ≤ k_ ∧ k_ < w8.heap.size := e_; have h2 : w3.heap.size ≤ k_ ∧ k_ < w4.heap.size := hk_; have := HS5.out; have := HS6.out; have := HS7.out; omega); replace BK2 := uKk BK2 hk (fun e_ => by have e2 : w7.heap.size ≤ gb2 ∧ gb2 < w8.heap.size := e_; have := HG2.out; have := HL2.out; have := HS2.out; have := HS3.out; have := HS4.out; have := HS5.out; have := HS6.out; have := HS7.out; omega); replace HO3_0 := zM (Kd.S_mono (Kd.S_bound hy0) (fun k_ hk_ => (Or.imp id (fun h_ => ⟨h_, hk_.2.2.1⟩) hk_.1 : (w7.heap.size ≤ k_ ∧ k_ < w8.heap.size) ∨ (w14.heap.size ≤ k_ ∧ k_ < w15.heap.size)))); clear hy0; have hl3_0 := (Kd.S_reads' HO3_0.out).1; rw [hl3_0] at HO3_0; replace hl3_0 := zM hl3_0; have HS15 := zM hk.1; replace HB := zM hb2; clear hb2 hk; replace hc2_0 := zy BK2 0; replace hf2_0 := blk_frozen BK2.out 0; replace hc2_1 := zy BK2 1; replace hf2_1 := blk_frozen BK2.out 1)
    | (have hst_ : Aside0 (Below w.heap.size w w15) := HB; clear hst_; go_at_call 19; refine uArgs (args' := #[.slice Ao3_0 mk1_0.length co3_0, .int .i64 1]) (by rw [hl3_0.out]) ?_; refine (laws_heldIntSS.calls k8 _ _ mk1_0 1 kk1 _ ?side1 ?side2 H8.out).mono ?_; (case side1 => exact zC (Kd.S_reads' HO3_0.out).2.2); (case side2 => exact (Kd.S_reads' HO3_0.out).2.1); rintro e w16 ⟨rfl, hb0⟩; have hb := hb0.below; clear hb0; replace HO1_0 := uNb HO1_0 hb; replace HO3_0 := uSb HO3_0 hb; replace BK2 := uKb BK2 hb; have HS16 := zM hb.size; replace HB := zM (below_step HB.out hb); clear hb; replace hc2_0 := zy BK2 0; replace hf2_0 := blk_frozen BK2.out 0; replace hc2_1 := zy BK2 1; replace hf2_1 := blk_frozen BK2.out 1)
    | (have hst_ : Aside0 (Below w.heap.size w w16) := HB; clear hst_; go_at_call 10; refine (laws_toGraph.calls k1 a0_0 _ _ l0_1 a0_0 l0_1 _ ?side1 ?side2 H1.out).mono ?_; (case side1 => exact zC (Kd.C_below HR0_1.out HB.out)); (case side2 => exact HC0_1.out); clear BK2 hc2_0 hf2_0 hc2_1 hf2_1; rintro e w17 ⟨v5_0, rfl, ho0, hb⟩; replace HO1_0 := uNb HO1_0 hb; replace HO3_0 := uSb HO3_0 hb; have HS17 := zM hb.size; have HO5_0 := uR HB.out (by first | exact ho0 | exact Kd.R_mono ho0 (fun _ _ => trivial) | exact Kd.R_mono ho0 (fun _ hk_ => hk_.1)); clear ho0; obtain ⟨Ao5_0, co5_0, eo5_0⟩ := Kd.R_slice HO5_0.out; subst eo5_0; replace HB := zM (below_step HB.out hb); clear hb)
    | (have hst_ : Aside0 (Below w.heap.size w w17) := HB; clear hst_; go_at_call 23; refine (impl_StuckSets.calls k3 a0_0 _ _ l0_1 a1 q0 q1 _ ?side1 ?side2 H3.out).mono ?_; (case side1 => exact zC (Kd.R_reads' HO5_0.out).2.2); (case side2 => exact (Kd.R_reads' HO5_0.out).2.1); clear HO5_0; rintro e w18 ⟨v6_0, rfl, ho0, hb⟩; replace HO1_0 := uNb HO1_0 hb; replace HO3_0 := uSb HO3_0 hb; have HS18 := zM hb.size; have HO6_0 := uS HB.out (by first | exact ho0 | exact Kd.S_mono ho0 (fun _ _ => trivial) | exact Kd.S_mono ho0 (fun _ hk_ => hk_.1)); clear ho0; obtain ⟨Ao6_0, co6_0, eo6_0⟩ := Kd.S_slice HO6_0.out; subst eo6_0; replace HB := zM (below_step HB.out hb); clear hb)
    | (have hst_ : Aside0 (Below w.heap.size w w18) := HB; clear hst_; go_at_call 13; refine (laws_eqIntSS.calls k4 _ _ q0 _ _ q0 true _ ?side1 ?side2 ?side3 ?side4 H4.out).mono ?_; (case side1 => exact zC (Kd.S_reads' HO6_0.out).2.2); (case side2 => exact (Kd.S_reads' HO6_0.out).2.1); (case side3 => exact zC (Kd.N_reads' HO1_0.out).2.2); (case side4 => exact (Kd.N_reads' HO1_0.out).2.1); clear HO1_0; clear HO6_0; rintro e w19 ⟨rfl, hb0⟩; have hb := hb0.below; clear hb0; replace HO3_0 := uSb HO3_0 hb; have HS19 := zM hb.size; replace HB := zM (below_step HB.out hb); clear hb)
    | (have hst_ : Aside0 (Below w.heap.size w w19) := HB; clear hst_; go_at_call 19; refine uArgs (args' := #[.slice Ao3_0 mk1_0.length co3_0, .int .i64 1]) (by rw [hl3_0.out]) ?_; refine (laws_heldIntSS.calls k8 _ _ mk1_0 1 kk1 _ ?side1 ?side2 H8.out).mono ?_; (case side1 => exact zC (Kd.S_reads' HO3_0.out).2.2); (case side2 => exact (Kd.S_reads' HO3_0.out).2.1); clear HO3_0; rintro e w20 ⟨rfl, hb0⟩; have hb := hb0.below; clear hb0; have HS20 := zM hb.size; replace HB := zM (below_step HB.out hb); clear hb))
  go_ret
  exact ⟨rfl, HB.out⟩
end Go.Proofs.YtadjbmcfgjmhkaaGreat.P
