/- Neighbours in a graph, as both sides tell them, and marks that are held. -/
import Derived.Test.YtfkcddambaadjaaDoorParseGraphG8
import Derived.Test.YtfkcddambaadjaaDoorParseGraphG6
import Derived.Test.YtfkcddambaadjaaDoorParseGraphG5
import Derived.Test.YtfkcddambaadjaaDoorParseGraphG9
import Derived.Test.YtfkcddambaadjaaDoorParseGraphG4
namespace Go.Proofs.YtfkcddambaadjaaDoor.P
open Go.RowKit Go.Proofs.YtfkcddambaadjaaDoorW.PrintWords Go.Proofs.YtfkcddambaadjaaDoorW.PrintLast Go.Proofs.YtfkcddambaadjaaDoorW.PrintMore
set_option linter.unusedVariables false
set_option linter.unusedSimpArgs false

/-! Marks are held, and counted from 0 on. -/
theorem mark2_fst (l : List S41) : ∀ (k : Int), 0 ≤ k → k + 2 * (l.length : Int) ≤ 4611686018427387904 → (mark2 l k).1 = k + 2 * (l.length : Int) := by
  induction l with
  | nil => intro k h1 h2; simp [mark2]
  | cons e t ih =>
    intro k h1 h2
    simp only [List.length_cons] at h2 ⊢
    simp only [mark2]
    have e1 : wrap64 (k + 1) = k + 1 := wrap_nat (by omega) (by omega)
    have e2 : wrap64 (k + 1 + 1) = k + 1 + 1 := wrap_nat (by omega) (by omega)
    rw [e1, e2, ih (k + 1 + 1) (by omega) (by omega)]
    omega
theorem held_mark2 (l : List S41) : ∀ (k : Int), held2 (mark2 l k).2 k = (mark2 l k).1 := by
  induction l with
  | nil => intro k; rfl
  | cons e t ih => intro k; simp only [mark2, held2, if_true]; exact ih _
theorem markGraph_at (a : Int) (l : List S41) (k : Int) : laws_markGraph.f a l k = some ((mark2 l k).1, (mark2 l k).2) := rfl
theorem mark1_pos (l : List S41) (hl : l.length ≤ 1048576) : ¬ (mark2 l 1).1 < 0 := by rw [mark2_fst l 1 (by omega) (by omega)]; omega
theorem heldGraph_at (a : Int) (l : List S41) (hl : l.length ≤ 1048576) : laws_heldGraph.f a (mark2 l 1).2 1 = some (mark2 l 1).1 := by
  unfold laws_heldGraph.f laws_heldIntA2S.f
  rw [Option.bind_some, held_mark2, if_neg (mark1_pos l hl)]

/-! What a valid graph gives. -/
theorem goodP_all (n : Int) (l : List S41) : ∀ p, goodP n p l = true → ∀ e ∈ l, 0 ≤ e.f0 ∧ e.f0 < e.f1 ∧ e.f1 < n := by
  induction l with
  | nil => intro p h e he; simp at he
  | cons x t ih =>
    intro p h e he
    simp only [goodP, Bool.and_eq_true, decide_eq_true_eq] at h
    obtain ⟨⟨⟨h1, h2⟩, h3⟩, h4, h5⟩ := h
    rcases List.mem_cons.1 he with rfl | he
    · exact ⟨h1, h2, h3⟩
    · exact ih _ h5 e he
end Go.Proofs.YtfkcddambaadjaaDoor.P
namespace Go.Proofs.YtfkcddambaadjaaDoor.P
open Go.RowKit Go.Proofs.YtfkcddambaadjaaDoorW.PrintWords Go.Proofs.YtfkcddambaadjaaDoorW.PrintLast Go.Proofs.YtfkcddambaadjaaDoorW.PrintMore
set_option linter.unusedVariables false
set_option linter.unusedSimpArgs false
set_option maxRecDepth 100000 in
set_option maxHeartbeats 8000000 in
theorem impl_ParseGraph.calls (a0 : ByteArray) (r1 : Int) (r2 : List S41) (r3 : Bool) (w : World) (henv : ∀ w_ : World, Below w.heap.size w w_ → Env w_) (h : impl_ParseGraph.f a0 = some (r1, r2, r3)) :
    Calls Tryd.prog 11 #[.string a0] w fun e w' => ∃ v1_ : Value, e = .returned (.tuple #[.agg #[.int .i64 r1, v1_], .bool r3]) ∧ Kd.R k41 41 w' w.heap.size (fun _ => True) v1_ r2 ∧ Below w.heap.size w w' := by
  have hug := Tryd.underlying28
  unfold impl_ParseGraph.f at h
  by_cases hsz : a0.size ≤ 1048576
  case neg => rw [if_neg hsz] at h; cases h
  rw [if_pos hsz] at h
  have HRES := zM (Option.some.inj h)
  have HENV := zM henv
  have HSZ := zM hsz
  have HB := zM (Below.refl w.heap.size w)
  have hz := spl_lens 32 a0.data.toList
  have hsl := size_len a0
  have hne := spl_ne 32 a0.data.toList
  obtain ⟨W, hW⟩ : ∃ W, W = (spl 32 a0.data.toList).map str := ⟨_, rfl⟩
  have HWW := zM hW
  have hWl : W.length = (spl 32 a0.data.toList).length := by rw [hW, List.length_map]
  have hpos : 0 < W.length := by rw [hWl]; exact List.length_pos_iff.2 hne
  have HWs := zM (show ∀ x ∈ W, x.size ≤ 1048576 from fun x hx => by
    rw [hW] at hx
    obtain ⟨y, hy, rfl⟩ := List.mem_map.1 hx
    rw [str_size]
    have := hz.2 y hy
    omega)
  have HWl := zM (show W.length ≤ 1048577 by omega)
  obtain ⟨D, hD⟩ : ∃ D : Nat, W.length - 1 = D := ⟨_, rfl⟩
  have hD2 : D + 1 = W.length := by omega
  have HD2 := zM hD2
  obtain ⟨w0, hw0⟩ : ∃ w0, W[0]? = some w0 := ⟨W[0], List.getElem?_eq_getElem hpos⟩
  have HW0 := zM hw0
  have HP0 := zM hpos
  have HS0 := zM (HWs.out w0 (List.mem_of_getElem? hw0))
  have s1 : ((1 : Int) ≤ (W.length : Int)) = True := eq_true (by omega)
  have s2 : (1 ≤ W.length) = True := eq_true hpos
  have s3 : (0 < W.length) = True := eq_true hpos
  have s4 : ((0 : Int) < (W.length : Int)) = True := eq_true (by omega)
  have s5 : W.length - 1 = D := hD
  clear h hsz henv hz hsl hne hW hWl hpos hD hD2 hw0
  go_enter Tryd.func11, Tryd.ntmps11
  go_wp2_with (first
    | ((with_reducible refine gate_dst (N := 2) rfl ?_); refine ze 2 #[.int .i64 0, .slice none 0 0] 28 ?_; intro g2 hg w1 hbox hb; have BK2 := zM hbox; have HG2 := zM (show w.heap.size ≤ g2 by rw [hg]; exact below_size HB.out); replace HB := zM (below_step HB.out hb); clear hg hbox hb)
    | (go_at_call 24; refine (splitG_calls a0 HSZ.out _ (HENV.out _ HB.out)).mono ?_; rw [← HWW.out]; rintro e w2 ⟨v4, rfl, ho, hb⟩; obtain ⟨gW, cW, e4, _⟩ := Kd.R_form ho HP0.out; subst e4; have HO := zM (Kd.R_lower ho (below_size HB.out)); replace BK2 := zM (blk_below BK2.out hb); replace HB := zM (below_step HB.out hb); clear ho hb; have HcW := zM (Kd.R_reads' HO.out).2.1; have t1 : (1 ≤ cW) = True := eq_true (by have := HcW.out; have := HP0.out; omega); have t2 : ((1 : Int) ≤ (cW : Int)) = True := eq_true (by have := HcW.out; have := HP0.out; omega); obtain ⟨ad, e5, hx0⟩ := Kd.at_string (Kd.R_reads' HO.out).2.2 0 (by omega) (by have := HP0.out; omega); cases e5; rw [show rdOf ByteArray.empty W 0 = w0 from by have := HW0.out; simp [rdOf, List.getD_eq_getElem?_getD, this]] at hx0; replace hx0 : w2.cell? ⟨gW, 0, none⟩ = some (.string w0) := hx0; obtain ⟨B, hB⟩ : ∃ B : Option Addr, (if cW = 1 then some (⟨gW, 0, none⟩ : Addr) else some ⟨gW, 1, none⟩) = B := ⟨_, rfl⟩)
    | (go_at_call 25; refine (atoiV_calls w0 HS0.out _ (HENV.out _ HB.out)).mono ?_; rintro e w3 ⟨n, ev, rfl, hv, hb⟩; have HN := zM hv; replace HO := zM (Kd.R_below HO.out hb); replace BK2 := zM (blk_below BK2.out hb); replace HB := zM (below_step HB.out hb); clear hv hb hx0)
    | ((with_reducible refine gate_dst (N := 7) rfl ?_); refine ze 7 #[.int .i64 0, .slice none 0 0] 28 ?_; intro g7 hg w4 hbox hb; have BK7 := zM hbox; have HG7 := zM (show w.heap.size ≤ g7 by rw [hg]; exact below_size HB.out); have NB := zM (show g2 ≠ g7 by rw [hg]; exact Nat.ne_of_lt (blk_lt BK2.out)); replace HO := zM (Kd.R_below HO.out hb); replace BK2 := zM (blk_below BK2.out hb); replace HB := zM (below_step HB.out hb); clear hg hbox hb; have hc0 := zy BK7 0; have hc1 := zy BK7 1; have hf0 := blk_frozen BK7.out 0; have hf1 := blk_frozen BK7.out 1))
  have HO' := zM (show Kd.R Kd.string 9 _ w.heap.size (fun _ => True) (.slice (some ⟨gW, 0, none⟩) W.length cW) W from Kd.R_mono (ok' := fun _ => True) (Kd.R_far (p := ⟨g7, 1, none⟩) (Kd.R_far (p := ⟨g7, 0, none⟩) (Kd.R_types HO.out BK7.out (by decide)) (fun _ hk => hk.2) (.int .i64 n)) (fun _ hk => hk.2) (.slice none 0 0)) (fun _ _ => trivial))
  go_loopg [9, 10, 11, 12, 13, 14, 15, 16, 33] (D + 1) (fun kq v9 v10 v11 v12 v13 v14 v15 v16 v33 w' => ∃ (m : Nat) (es : List S41) (v1 : Value), v33 = .int .i64 (m : Int) ∧ Aside0 (m ≤ D) ∧ Aside0 (kq = D - m + 1) ∧ Aside0 (es.length = m) ∧ Aside0 (PEs W es) ∧ Aside0 (Kd.R Kd.string 9 w' w.heap.size (fun _ => True) (.slice (some ⟨gW, 0, none⟩) W.length cW) W) ∧ Aside0 (Kd.R k41 41 w' w.heap.size (fun _ => True) v1 es) ∧ Aside0 (w'.heap[g7]? = some (.cells #[.int .i64 n, v1] 28 (0, 0))) ∧ Aside0 (w'.heap[g2]? = some (.cells #[.int .i64 0, .slice none 0 0] 28 (0, 0))) ∧ Aside0 (Below w.heap.size w w'))
  case atStart => exact ⟨0, [], .slice none 0 0, by first | rfl | (simp; done), ⟨Nat.zero_le _⟩, ⟨by omega⟩, ⟨rfl⟩, ⟨fun j w e _ he => by simp at he⟩, HO', ⟨Kd.R_nil _ _ _ _ _⟩, ⟨blk_put (cs := #[.int .i64 n, .slice none 0 0]) (blk_put (cs := #[.int .i64 0, .slice none 0 0]) BK7.out 0 _ rfl) 1 _ rfl⟩, ⟨blk_far (blk_far BK2.out NB.out _) NB.out _⟩, ⟨below_set (below_set HB.out HG7.out) HG7.out⟩⟩
  case round =>
    clear HO HO' BK7 BK2 HB hc0 hc1 hf0 hf1
    obtain ⟨m, es, v1, rfl, HM, HK1, HEL, HPE, HO, HR, BK7, BK2, HB⟩ := hrel
    obtain ⟨Ao, co, eo⟩ := Kd.R_slice HR.out
    subst eo
    have hc0 := zy BK7 0
    have hc1 := zy BK7 1
    have hf0 := blk_frozen BK7.out 0
    have hf1 := blk_frozen BK7.out 1
    by_cases c1 : m < D
    · have q1 : (m : Int) < (D : Int) := by omega
      have c1b : decide ((m : Int) < (D : Int)) = true := decide_eq_true q1
      have c1c : decide (m < D) = true := decide_eq_true c1
      have p1 : (0 : Int) ≤ (m : Int) := by omega
      have hw1 : (m : Int) + 1 ≤ 9223372036854775807 := by have := HWl.out; have := HD2.out; omega
      have hm1 : m + 1 < W.length := by have := HD2.out; omega
      have hcn : ¬ cW = 1 := by have := HcW.out; have := HD2.out; omega
      have hBv : B = some ⟨gW, 1, none⟩ := by rw [← hB, if_neg hcn]
      clear hB
      subst hBv
      obtain ⟨ad, e5, hx0⟩ := Kd.at_string (Kd.R_reads' HO.out).2.2 ((m + 1 : Nat) : Int) (by omega) (by omega)
      cases e5
      rw [Int.toNat_natCast, rdB_at W (m + 1) hm1, add_plain] at hx0
      have HX := zM (show W[m + 1]? = some W[m + 1] from List.getElem?_eq_getElem hm1)
      have HXs := zM (HWs.out W[m + 1] (List.getElem_mem hm1))
      generalize W[m + 1] = x at hx0 HX HXs
      have hx1 := hx0
      rw [Nat.add_comm m 1] at hx1
      have hcl := cut_len x.data.toList
      have HXa := zM (show (str (Lib.cut x.data.toList [45]).1).size ≤ 1048576 by rw [str_size]; have := HXs.out; have := size_len x; omega)
      have HXb := zM (show (str (Lib.cut x.data.toList [45]).2.1).size ≤ 1048576 by rw [str_size]; have := HXs.out; have := size_len x; omega)
      have HC1 := zM c1
      replace p1 := eq_true p1
      replace q1 := eq_true q1
      clear c1 hm1 hcn hcl
      go_wp2_with (first
        | (go_at_call 26; refine (cutG_calls x HXs.out _ (HENV.out _ HB.out)).mono ?_; rintro e w5 ⟨f, rfl, hb⟩; replace HO := zM (Kd.R_below HO.out hb); replace HR := zM (Kd.R_below HR.out hb); replace BK7 := zM (blk_below BK7.out hb); replace BK2 := zM (blk_below BK2.out hb); replace HB := zM (below_step HB.out hb); clear hb hx0 hx1; replace hc0 := zy BK7 0; replace hc1 := zy BK7 1; replace hf0 := blk_frozen BK7.out 0; replace hf1 := blk_frozen BK7.out 1)
        | (go_at_call 25; have HVk := HV1; refine (atoiV_calls (str (Lib.cut x.data.toList [45]).2.1) HXb.out _ (HENV.out _ HB.out)).mono ?_; rintro e w7 ⟨y2, ev2, rfl, hv, hb⟩; have HV2 := zM hv; replace HO := zM (Kd.R_below HO.out hb); replace HR := zM (Kd.R_below HR.out hb); replace BK7 := zM (blk_below BK7.out hb); replace BK2 := zM (blk_below BK2.out hb); replace HB := zM (below_step HB.out hb); clear hv hb HVk; replace hc0 := zy BK7 0; replace hc1 := zy BK7 1; replace hf0 := blk_frozen BK7.out 0; replace hf1 := blk_frozen BK7.out 1)
        | (go_at_call 25; refine (atoiV_calls (str (Lib.cut x.data.toList [45]).1) HXa.out _ (HENV.out _ HB.out)).mono ?_; rintro e w6 ⟨y1, ev1, rfl, hv, hb⟩; have HV1 := zM hv; replace HO := zM (Kd.R_below HO.out hb); replace HR := zM (Kd.R_below HR.out hb); replace BK7 := zM (blk_below BK7.out hb); replace BK2 := zM (blk_below BK2.out hb); replace HB := zM (below_step HB.out hb); clear hv hb; replace hc0 := zy BK7 0; replace hc1 := zy BK7 1; replace hf0 := blk_frozen BK7.out 0; replace hf1 := blk_frozen BK7.out 1)
        | ((with_reducible refine gate_builtin (b := .append) (xs := #[.tmp 54, .tmp 58]) rfl ?_); at_builtin; refine Kd.R_append k41 (w0 := w) w.heap.size rfl (.tmp 54) (.tmp 58) 22 41 (.agg #[(.int .i64 0), (.int .i64 0)]) 16 rfl Tryd.underlying22 info41 rfl (by decide) (by omega) (.slice Ao es.length co) es (⟨y1, y2⟩ : S41) [.int .i64 y1, .int .i64 y2] (fun _ => True) (fun _ => False) rfl rfl ?aP (fun _ hk => hk.elim) ?aF ?aO ?aB ?aS ?aL ?_; (case aP => exact k41_mkM _ _ _ (⟨y1, y2⟩ : S41)); (case aB => exact zB); (case aF => exact (fun _ _ => trivial)); (case aO => exact (zR HR.out)); (case aS => exact (below_size zB)); (case aL => have := HEL.out; have := HWl.out; have := HD2.out; have := HC1.out; omega); intro v9 w9 ho hb hg hat; obtain ⟨E5, hE5⟩ : ∃ E5, E5 = es ++ [(⟨y1, y2⟩ : S41)] := ⟨_, rfl⟩; rw [← hE5] at ho; have HE5 := zM hE5; clear hE5; obtain ⟨A9, c9, e9⟩ := Kd.R_slice ho; subst e9; replace HO := zM (Kd.R_over' HO.out (Kd.R_typed HR.out) (by decide) hg); replace BK7 := zM (blk_grown (zK BK7.out) hg (Kd.R_ne HR.out BK7.out (by decide))); replace BK2 := zM (blk_grown (zK BK2.out) hg (Kd.R_ne HR.out BK2.out (by decide))); replace HB := zM hb; replace HR := zM ho; clear ho hb hg hat; replace hc0 := zy BK7 0; replace hc1 := zy BK7 1; replace hf0 := blk_frozen BK7.out 0; replace hf1 := blk_frozen BK7.out 1))
      go_roundg (D - m)
      case measure => have := HK1.out; have := HC1.out; omega
      case rel => exact ⟨m + 1, E5, _, by first | rfl | (simp; done) | go_num, ⟨by have := HC1.out; omega⟩, ⟨by have := HC1.out; omega⟩, ⟨by rw [HE5.out, List.length_append, List.length_singleton, HEL.out]⟩, ⟨fun j wj e hj he => by
          rw [HE5.out] at he
          by_cases hjm : j < es.length
          · rw [List.getElem?_append_left hjm] at he
            exact HPE.out j wj e hj he
          · have hjl := (List.getElem?_eq_some_iff.1 he).1
            rw [List.length_append, List.length_singleton] at hjl
            have hje : j = es.length := by omega
            subst hje
            rw [List.getElem?_append_right (Nat.le_refl _), Nat.sub_self] at he
            have he2 : (⟨y1, y2⟩ : S41) = e := by simpa using he
            rw [HEL.out, HX.out] at hj
            obtain rfl := Option.some.inj hj
            subst he2
            exact ⟨fun u hu => HV1.out u (by rw [str_list]; exact hu), fun u hu => HV2.out u (by rw [str_list]; exact hu)⟩⟩,
        ⟨Kd.R_mono (ok' := fun _ => True) (Kd.R_far (p := ⟨g7, 1, none⟩) (Kd.R_types HO.out BK7.out (by decide)) (fun _ hk => hk.2) _) (fun _ _ => trivial)⟩, ⟨Kd.R_mono (ok' := fun _ => True) (Kd.R_far (p := ⟨g7, 1, none⟩) (Kd.R_types HR.out BK7.out (by decide)) (fun _ hk => hk.2) _) (fun _ _ => trivial)⟩, ⟨blk_put (cs := #[.int .i64 n, .slice Ao es.length co]) BK7.out 1 _ rfl⟩, ⟨blk_far BK2.out NB.out _⟩, ⟨below_set HB.out HG7.out⟩⟩
    · have hm : m = D := by have := HM.out; omega
      have c1b : decide ((m : Int) < (D : Int)) = false := decide_eq_false (by omega)
      have c1c : decide (m < D) = false := decide_eq_false c1
      have hd0 := zy BK2 0
      have hd1 := zy BK2 1
      have he0 := blk_frozen BK2.out 0
      have he1 := blk_frozen BK2.out 1
      have hesl : es.length ≤ 1048576 := by have := HEL.out; have := HWl.out; have := HD2.out; omega
      obtain ⟨k, hk⟩ := (impl_GraphText_ev n es hesl).rounds
      have HEQ := zM (fun (a : Int) (l : List S41) (ht : IsT a0 a l) => parsed_eq a0 W HWW.out n es (fun x hx u hu => by rw [HW0.out] at hx; obtain rfl := Option.some.inj hx; exact HN.out u hu) HPE.out (by rw [HEL.out, hm]; exact HD2.out) a l ht)
      clear c1 hm hesl
      cases hg : okG n es with
      | false =>
        have hgr : graR n es = (⟨#[]⟩, false) := if_neg (by rw [hg]; decide)
        rw [hgr] at hk
        have HK := zM hk
        have hno : ¬ AnyT a0 := fun ⟨a, l, ht⟩ => by
          obtain ⟨rfl, rfl⟩ := HEQ.out a l ht
          rw [ht.1] at hg
          cases hg
        have hres := HRES.out
        rw [parG_no a0 hno] at hres
        injection hres with h1 hres
        injection hres with h2 h3
        subst h1 h2 h3
        clear hk hgr hg hno HEQ
        go_wp2_with (go_at_call 8; refine (impl_GraphText.calls k n Ao co es _ _ _ (fun w_ hb_ => (HENV.out w_ (below_step HB.out hb_)).pow) (Kd.R_reads' HR.out).2.2 (Kd.R_reads' HR.out).2.1 HK.out).mono ?_; rintro e w8 ⟨rfl, hb⟩; replace BK2 := zM (blk_below BK2.out hb); replace HB := zM (below_step HB.out hb); clear hb hc0 hc1 hf0 hf1; replace hd0 := zy BK2 0; replace hd1 := zy BK2 1; replace he0 := blk_frozen BK2.out 0; replace he1 := blk_frozen BK2.out 1)
        (try simp only [Exit.inBlock, Exit.then])
        refine bodyPost_ret (results_ct rfl _ _ g2 28 #[.int .i64 0, .slice none 0 0] (0, 0) _ rfl (blk_put (cs := #[.int .i64 0, .slice none 0 0]) (blk_put (cs := #[.int .i64 0, .slice none 0 0]) BK2.out 0 _ rfl) 1 _ rfl) hug rfl (by kernel_rfl)) rfl ?_
        exact ⟨_, by first | rfl | (simp; done), Kd.R_nil _ _ _ _ _, below_set (below_set HB.out HG2.out) HG2.out⟩
      | true =>
        have hgr : graR n es = (textB n es, true) := if_pos hg
        rw [hgr] at hk
        have HK := zM hk
        by_cases ht : textB n es = a0
        · have hres := HRES.out
          rw [parG_yes a0 n es ⟨hg, ht.symm⟩] at hres
          injection hres with h1 hres
          injection hres with h2 h3
          subst h1 h2 h3
          have c6 := (str_eq_iff _ _).2 ht
          have c6b0 : ((textB n es).toList == a0.toList) = true := beq_iff_eq.mpr c6
          have c6b1 : ((textB n es).toList != a0.toList) = false := bne_eq_false_iff_eq.mpr c6
          clear hk hgr hg ht HEQ c6
          go_wp2_with (go_at_call 8; refine (impl_GraphText.calls k n Ao co es _ _ _ (fun w_ hb_ => (HENV.out w_ (below_step HB.out hb_)).pow) (Kd.R_reads' HR.out).2.2 (Kd.R_reads' HR.out).2.1 HK.out).mono ?_; rintro e w8 ⟨rfl, hb⟩; replace HR := zM (Kd.R_below HR.out hb); replace BK7 := zM (blk_below BK7.out hb); replace BK2 := zM (blk_below BK2.out hb); replace HB := zM (below_step HB.out hb); clear hb; replace hc0 := zy BK7 0; replace hc1 := zy BK7 1; replace hf0 := blk_frozen BK7.out 0; replace hf1 := blk_frozen BK7.out 1; replace hd0 := zy BK2 0; replace hd1 := zy BK2 1; replace he0 := blk_frozen BK2.out 0; replace he1 := blk_frozen BK2.out 1)
          (try simp only [Exit.inBlock, Exit.then])
          refine bodyPost_ret (results_ct rfl _ _ g2 28 #[.int .i64 n, .slice Ao es.length co] (0, 0) _ rfl (blk_put (cs := #[.int .i64 n, .slice none 0 0]) (blk_put (cs := #[.int .i64 0, .slice none 0 0]) BK2.out 0 _ rfl) 1 _ rfl) hug rfl (by kernel_rfl)) rfl ?_
          exact ⟨_, by first | rfl | (simp; done), Kd.R_mono (ok' := fun _ => True) (Kd.R_far (p := ⟨g2, 1, none⟩) (Kd.R_far (p := ⟨g2, 0, none⟩) (Kd.R_types HR.out BK2.out (by decide)) (fun _ hk => hk.2) _) (fun _ hk => hk.2) _) (fun _ _ => trivial), below_set (below_set HB.out HG2.out) HG2.out⟩
        · have hno : ¬ AnyT a0 := fun ⟨a, l, ht2⟩ => by
            obtain ⟨rfl, rfl⟩ := HEQ.out a l ht2
            exact ht ht2.2.symm
          have hres := HRES.out
          rw [parG_no a0 hno] at hres
          injection hres with h1 hres
          injection hres with h2 h3
          subst h1 h2 h3
          have c6 : ¬ (textB n es).toList = a0.toList := fun h => ht ((str_eq_iff _ _).1 h)
          have c6b0 : ((textB n es).toList == a0.toList) = false := beq_eq_false_iff_ne.mpr c6
          have c6b1 : ((textB n es).toList != a0.toList) = true := bne_iff_ne.mpr c6
          clear hk hgr hg ht HEQ c6 hno
          go_wp2_with (go_at_call 8; refine (impl_GraphText.calls k n Ao co es _ _ _ (fun w_ hb_ => (HENV.out w_ (below_step HB.out hb_)).pow) (Kd.R_reads' HR.out).2.2 (Kd.R_reads' HR.out).2.1 HK.out).mono ?_; rintro e w8 ⟨rfl, hb⟩; replace BK2 := zM (blk_below BK2.out hb); replace HB := zM (below_step HB.out hb); clear hb hc0 hc1 hf0 hf1; replace hd0 := zy BK2 0; replace hd1 := zy BK2 1; replace he0 := blk_frozen BK2.out 0; replace he1 := blk_frozen BK2.out 1)
          (try simp only [Exit.inBlock, Exit.then])
          refine bodyPost_ret (results_ct rfl _ _ g2 28 #[.int .i64 0, .slice none 0 0] (0, 0) _ rfl (blk_put (cs := #[.int .i64 0, .slice none 0 0]) (blk_put (cs := #[.int .i64 0, .slice none 0 0]) BK2.out 0 _ rfl) 1 _ rfl) hug rfl (by kernel_rfl)) rfl ?_
          exact ⟨_, by first | rfl | (simp; done), Kd.R_nil _ _ _ _ _, below_set (below_set HB.out HG2.out) HG2.out⟩
end Go.Proofs.YtfkcddambaadjaaDoor.P
