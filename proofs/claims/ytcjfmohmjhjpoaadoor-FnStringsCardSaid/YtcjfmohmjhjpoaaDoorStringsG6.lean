/- The draws of texts, walked: what they hand back is small. -/
import Derived.Test.YtcjfmohmjhjpoaaDoorStringsG5
import Derived.Test.YtcjfmohmjhjpoaaDoorStringsG4
import Derived.Test.YtcjfmohmjhjpoaaDoorStringsG3
import Derived.Lib.SplitLaws
import Derived.Handy
import Derived.Laws.BytesArg
import Derived.Laws.IdiomStrings
import Derived.Deep.MidRow
import Derived.ProofKit
import Derived.OpenShut
namespace Go.Proofs.YtcjfmohmjhjpoaaDoor.P
open Go.RowKit Go.Proofs.YtcjfmohmjhjpoaaDoorW.PrintWords Go.Proofs.YtcjfmohmjhjpoaaDoorW.PrintLast Go.Proofs.YtcjfmohmjhjpoaaDoorW.PrintMore
set_option linter.unusedVariables false
set_option linter.unusedSimpArgs false
/-- A string of zeros, out of a new slice of bytes. -/
theorem conv_zeros {o : Oper} {a : Act} {W : World} {base n : Nat} {v : Value} {ok : Nat → Prop} (z : ByteArray) (x : Operand) (ho : o.op = .convert 33 9 x) (hx : a.eval x = v) (hz : z = strOfNums (List.replicate n 0)) (h : Kd.R (Kd.int .u8) 5 W base ok v (List.replicate n 0)) (hn : 0 < n) : (execOp a.eval o).run Tryd.prog W = .ok (.value (.string z)) W := by
  subst hz
  obtain ⟨g, cap, rfl, hg, hl, cells, hc⟩ := Kd.R_form h (by rw [List.length_replicate]; exact hn)
  have hr := (Kd.R_reads' h).2.2
  have hrun := run_convert_bytes_arg (P := Tryd.prog) W 33 5 Tryd.underlying33 (by kernel_rfl) g 0 (List.replicate n (0 : Int)).length cap (List.replicate n 0) rfl (fun i hi => by
    obtain ⟨ad, e, h0⟩ := Kd.at_int hr (i : Int) (by omega) (by omega)
    cases e
    rw [Int.toNat_natCast, add_plain] at h0
    rw [Nat.zero_add, h0]
    simp [rd]) 9 (by kernel_rfl)
  rw [List.length_replicate] at hrun hx
  simp [execOp, ho, hx, hrun]

end Go.Proofs.YtcjfmohmjhjpoaaDoor.P
namespace Go.Proofs.YtcjfmohmjhjpoaaDoor.P
open Go.RowKit Go.Proofs.YtcjfmohmjhjpoaaDoorW.PrintWords Go.Proofs.YtcjfmohmjhjpoaaDoorW.PrintLast Go.Proofs.YtcjfmohmjhjpoaaDoorW.PrintMore
set_option linter.unusedVariables false
set_option linter.unusedSimpArgs false
theorem among_some {l : List Int} {p s : Int} {ts : List Int} (hl : isCode l) (h0 : 0 ≤ p) (h1 : p ≤ 4611686018427387900) (ht : 0 < ts.length) : ∃ t p1 s1, spec_l1Cur_among.f l p s ts = some (t, p1, s1) ∧ t ∈ ts ∧ p ≤ p1 ∧ p1 ≤ p + 2 := by
  unfold spec_l1Cur_among.f
  obtain ⟨b, p1, s1, e, b0, b1, q0, q1⟩ := pick_some (s := s) (n := (ts.length : Int)) hl h0 h1
  rw [e]
  dsimp only [Option.bind_some]
  have hb : b < (ts.length : Int) := by omega
  rw [if_pos b0, if_pos hb]
  have hj : b.toNat < ts.length := by omega
  refine ⟨_, _, _, rfl, ?_, q0, q1⟩
  have er : rd ts b = ts[b.toNat] := by simp [rd, List.getD_eq_getElem?_getD, List.getElem?_eq_getElem hj]
  rw [er]; exact List.getElem_mem hj
set_option maxRecDepth 100000 in
set_option maxHeartbeats 4000000 in
theorem spec_DrawFormatInt_calls (l : List Int) (hl : isCode l) : ∃ n : Int, (-1000000 ≤ n ∧ n ≤ 1000000) ∧ ∀ (A : Option Addr) (cp : Nat) (w : World), Kd.C (Kd.int .u8) w A l.length l → l.length ≤ cp →
    Calls Tryd.prog 31 #[.slice A l.length cp] w fun e w' => e = .returned (.int .i64 n) ∧ Below w.heap.size w w' := by
  obtain ⟨b1, p1, s1, e1, z1, z1b, b1a, b1b⟩ := pick_some (s := 0) (n := 1000) hl (Int.le_refl 0) (by omega)
  obtain ⟨d, hd⟩ : ∃ d : Int, d = b1 - 500 := ⟨_, rfl⟩
  have n1 : wrap64 (b1 - 500) = d := by rw [hd]; exact wrap_nat (by omega) (by omega)
  obtain ⟨ts, hts⟩ : ∃ ts : List Int, ts = ([0, 1, -1, 10, 999999, -999999, 1000000, -1000000, d] : List Int) := ⟨_, rfl⟩
  obtain ⟨t2, p2, s2, e2, z2, b2a, b2b⟩ := among_some (s := s1) (ts := ts) hl b1a (by omega) (by rw [hts]; simp)
  have z3 : -1000000 ≤ t2 ∧ t2 ≤ 1000000 := by
    rw [hts] at z2
    simp only [List.mem_cons, List.not_mem_nil, or_false] at z2
    omega
  refine ⟨t2, z3, fun A cp w hr hc => ?_⟩
  have HB := zM (Below.refl w.heap.size w)
  have HR := zM hr
  have E1 := zM e1
  have E2 := zM e2
  have HT := zM hts
  clear e1 e2 z1 z1b z2 z3 b1a b1b b2a b2b hl hr hc hts hd
  go_enter Tryd.func31, Tryd.ntmps31
  go_wp2_with (first
    | ((with_reducible refine gate_dst (N := 6) rfl ?_); refine ze 6 #[.slice A l.length cp, .int .i64 0, .int .u64 0] 57 ?_; intro g hg w1 hbox hb; have HI := zM (show IsS57 w w1 g l 0 0 from ⟨A, cp, hbox, by rw [hg]; exact below_size HB.out, HR.out⟩); replace HB := zM (below_step HB.out hb); clear hg hbox hb)
    | ((have h_ : IsS57 w _ g l 0 0 := HI.out); clear h_; go_at_call 48; refine (spec_l1Cur_pick.calls g l 0 0 1000 b1 p1 s1 w _ (by (repeat (first | (with_reducible first | exact HI.out | apply IsS57.drewN | apply IsS57.drew) | exact HI.out)); done) (by (repeat (first | (with_reducible first | exact HB.out | apply pw_below_drewN | apply below_drew1) | exact HB.out)); done) E1.out).mono ?_; rintro e w6 ⟨rfl, hi, hb, hk⟩; replace HB := zM hb; replace HI := zM hi; clear hb hi hk)
    | ((with_reducible refine gate_dst (N := 11) rfl ?_); refine Kd.R_lit (Kd.int .i64) w.heap.size 3 ?hg (N := 11) ?hd (w0 := w) (xs := ([0, 1, -1, 10, 999999, -999999, 1000000, -1000000, d] : List Int)) (inner := [.int .i64 0, .int .i64 1, .int .i64 (-1), .int .i64 10, .int .i64 999999, .int .i64 (-999999), .int .i64 1000000, .int .i64 (-1000000), .int .i64 d]) (ok := fun _ => True) (okp := fun _ => True) ?hr ?hp (fun _ hk => hk) trivial (by (repeat (first | (with_reducible first | exact HB.out | apply pw_below_drewN | apply below_drew1) | exact HB.out)); done) (below_size (by (repeat (first | (with_reducible first | exact HB.out | apply pw_below_drewN | apply below_drew1) | exact HB.out)); done)) (by simp) ?_; (case hd => rfl); (case hg => rfl); (case hr => first | (go_simp; done) | (go_simp; rfl)); (case hp => exact (Reps.one (show Kd.M (Kd.int .i64) _ _ _ (0 : Int) [.int .i64 0] from rfl) (Reps.one (show Kd.M (Kd.int .i64) _ _ _ (1 : Int) [.int .i64 1] from rfl) (Reps.one (show Kd.M (Kd.int .i64) _ _ _ (-1 : Int) [.int .i64 (-1)] from rfl) (Reps.one (show Kd.M (Kd.int .i64) _ _ _ (10 : Int) [.int .i64 10] from rfl) (Reps.one (show Kd.M (Kd.int .i64) _ _ _ (999999 : Int) [.int .i64 999999] from rfl) (Reps.one (show Kd.M (Kd.int .i64) _ _ _ (-999999 : Int) [.int .i64 (-999999)] from rfl) (Reps.one (show Kd.M (Kd.int .i64) _ _ _ (1000000 : Int) [.int .i64 1000000] from rfl) (Reps.one (show Kd.M (Kd.int .i64) _ _ _ (-1000000 : Int) [.int .i64 (-1000000)] from rfl) (Reps.one (show Kd.M (Kd.int .i64) _ _ _ (d : Int) [.int .i64 d] from rfl) (Reps.none _ _))))))))))); intro v w3 ho hb hg_ hnew_; clear hnew_; (first | rw [← HT.out] at ho | (simp only [Int.reduceToNat] at ho; rw [← HT.out] at ho)); replace HI := zM (IsS57.grown (by (repeat (first | (with_reducible first | exact HI.out | apply IsS57.drewN | apply IsS57.drew) | exact HI.out)); done) hg_ (by simp)); replace HB := zM hb; clear hb hg_; obtain ⟨Ao, co, eo⟩ := Kd.R_slice ho; subst eo; have HQ := zM ho; clear ho)
    | ((have h_ : IsS57 w _ g l p1 s1 := HI.out); clear h_; go_at_call 55; refine (spec_l1Cur_among.calls g l p1 s1 Ao co ts t2 p2 s2 w _ (by (repeat (first | (with_reducible first | exact HI.out | apply IsS57.drewN | apply IsS57.drew) | exact HI.out)); done) (by (repeat (first | (with_reducible first | exact HB.out | apply pw_below_drewN | apply below_drew1) | exact HB.out)); done) (zC (Kd.R_reads' HQ.out).2.2) (Kd.R_reads' HQ.out).2.1 (far_slice (IsS57.own_ne HI.out HQ.out (by decide))) E2.out).mono ?_; rintro e w6 ⟨rfl, hi, hb, hk⟩; replace HB := zM hb; replace HI := zM hi; clear hb hi hk))
  go_ret
  exact ⟨rfl, (by (repeat (first | (with_reducible first | exact HB.out | apply pw_below_drewN | apply below_drew1) | exact HB.out)); done)⟩
set_option maxRecDepth 100000 in
set_option maxHeartbeats 4000000 in
theorem spec_DrawParseInt_calls (l : List Int) (hl : isCode l) : ∃ t : ByteArray, t.size ≤ 21 ∧ ∀ (A : Option Addr) (cp : Nat) (w : World), Kd.C (Kd.int .u8) w A l.length l → l.length ≤ cp →
    Calls Tryd.prog 32 #[.slice A l.length cp] w fun e w' => e = .returned (.string t) ∧ Below w.heap.size w w' := by
  obtain ⟨bb, p1, s1, e1, b1a, b1b⟩ := one_some (s := 0) (n := 2) hl (Int.le_refl 0) (by omega)
  cases bb with
  | true =>
    obtain ⟨ts, hts⟩ : ∃ ts : List ByteArray, ts = ([(⟨#[]⟩ : ByteArray), (⟨#[45]⟩ : ByteArray), (⟨#[45, 48]⟩ : ByteArray), (⟨#[48, 48]⟩ : ByteArray), (⟨#[48, 49]⟩ : ByteArray), (⟨#[45, 45, 49]⟩ : ByteArray), (⟨#[49, 120]⟩ : ByteArray), (⟨#[57, 57, 57, 57, 57, 57]⟩ : ByteArray), (⟨#[49, 48, 48, 48, 48, 48, 48]⟩ : ByteArray), (⟨#[45, 57, 57, 57, 57, 57, 57]⟩ : ByteArray), (⟨#[49, 56, 52, 52, 54, 55, 52, 52, 48, 55, 51, 55, 48, 57, 53, 53, 49, 54, 49, 55]⟩ : ByteArray)] : List ByteArray) := ⟨_, rfl⟩
    obtain ⟨t2, p2, s2, e2, z2, b2a, b2b⟩ := of_some (s := s1) (ts := ts) hl b1a (by omega) (by rw [hts]; simp)
    have z3 : t2.size ≤ 21 := by
      rw [hts] at z2
      simp only [List.mem_cons, List.not_mem_nil, or_false] at z2
      rcases z2 with rfl | rfl | rfl | rfl | rfl | rfl | rfl | rfl | rfl | rfl | rfl <;> decide
    refine ⟨t2, z3, fun A cp w hr hc => ?_⟩
    have HB := zM (Below.refl w.heap.size w)
    have HR := zM hr
    have E1 := zM e1
    have E2 := zM e2
    have HT := zM hts
    clear e1 e2 z2 z3 b1a b1b b2a b2b hl hr hc hts
    go_enter Tryd.func32, Tryd.ntmps32
    go_wp2_with (first
      | ((with_reducible refine gate_dst (N := 6) rfl ?_); refine ze 6 #[.slice A l.length cp, .int .i64 0, .int .u64 0] 57 ?_; intro g hg w1 hbox hb; have HI := zM (show IsS57 w w1 g l 0 0 from ⟨A, cp, hbox, by rw [hg]; exact below_size HB.out, HR.out⟩); replace HB := zM (below_step HB.out hb); clear hg hbox hb)
      | ((have h_ : IsS57 w _ g l 0 0 := HI.out); clear h_; go_at_call 49; refine (spec_l1Cur_one.calls g l 0 0 2 true p1 s1 w _ (by (repeat (first | (with_reducible first | exact HI.out | apply IsS57.drewN | apply IsS57.drew) | exact HI.out)); done) (by (repeat (first | (with_reducible first | exact HB.out | apply pw_below_drewN | apply below_drew1) | exact HB.out)); done) E1.out).mono ?_; rintro e w6 ⟨rfl, hi, hb, hk⟩; replace HB := zM hb; replace HI := zM hi; clear hb hi hk)
      | ((with_reducible refine gate_dst (N := 10) rfl ?_); refine Kd.R_lit Kd.string w.heap.size 9 ?hg (N := 10) ?hd (w0 := w) (xs := ([(⟨#[]⟩ : ByteArray), (⟨#[45]⟩ : ByteArray), (⟨#[45, 48]⟩ : ByteArray), (⟨#[48, 48]⟩ : ByteArray), (⟨#[48, 49]⟩ : ByteArray), (⟨#[45, 45, 49]⟩ : ByteArray), (⟨#[49, 120]⟩ : ByteArray), (⟨#[57, 57, 57, 57, 57, 57]⟩ : ByteArray), (⟨#[49, 48, 48, 48, 48, 48, 48]⟩ : ByteArray), (⟨#[45, 57, 57, 57, 57, 57, 57]⟩ : ByteArray), (⟨#[49, 56, 52, 52, 54, 55, 52, 52, 48, 55, 51, 55, 48, 57, 53, 53, 49, 54, 49, 55]⟩ : ByteArray)] : List ByteArray)) (inner := [.string (⟨#[]⟩ : ByteArray), .string (⟨#[45]⟩ : ByteArray), .string (⟨#[45, 48]⟩ : ByteArray), .string (⟨#[48, 48]⟩ : ByteArray), .string (⟨#[48, 49]⟩ : ByteArray), .string (⟨#[45, 45, 49]⟩ : ByteArray), .string (⟨#[49, 120]⟩ : ByteArray), .string (⟨#[57, 57, 57, 57, 57, 57]⟩ : ByteArray), .string (⟨#[49, 48, 48, 48, 48, 48, 48]⟩ : ByteArray), .string (⟨#[45, 57, 57, 57, 57, 57, 57]⟩ : ByteArray), .string (⟨#[49, 56, 52, 52, 54, 55, 52, 52, 48, 55, 51, 55, 48, 57, 53, 53, 49, 54, 49, 55]⟩ : ByteArray)]) (ok := fun _ => True) (okp := fun _ => True) ?hr ?hp (fun _ hk => hk) trivial (by (repeat (first | (with_reducible first | exact HB.out | apply pw_below_drewN | apply below_drew1) | exact HB.out)); done) (below_size (by (repeat (first | (with_reducible first | exact HB.out | apply pw_below_drewN | apply below_drew1) | exact HB.out)); done)) (by simp) ?_; (case hd => rfl); (case hg => rfl); (case hr => first | (go_simp; done) | (go_simp; rfl)); (case hp => exact (Reps.one (show Kd.M Kd.string _ _ _ ((⟨#[]⟩ : ByteArray) : ByteArray) [.string (⟨#[]⟩ : ByteArray)] from rfl) (Reps.one (show Kd.M Kd.string _ _ _ ((⟨#[45]⟩ : ByteArray) : ByteArray) [.string (⟨#[45]⟩ : ByteArray)] from rfl) (Reps.one (show Kd.M Kd.string _ _ _ ((⟨#[45, 48]⟩ : ByteArray) : ByteArray) [.string (⟨#[45, 48]⟩ : ByteArray)] from rfl) (Reps.one (show Kd.M Kd.string _ _ _ ((⟨#[48, 48]⟩ : ByteArray) : ByteArray) [.string (⟨#[48, 48]⟩ : ByteArray)] from rfl) (Reps.one (show Kd.M Kd.string _ _ _ ((⟨#[48, 49]⟩ : ByteArray) : ByteArray) [.string (⟨#[48, 49]⟩ : ByteArray)] from rfl) (Reps.one (show Kd.M Kd.string _ _ _ ((⟨#[45, 45, 49]⟩ : ByteArray) : ByteArray) [.string (⟨#[45, 45, 49]⟩ : ByteArray)] from rfl) (Reps.one (show Kd.M Kd.string _ _ _ ((⟨#[49, 120]⟩ : ByteArray) : ByteArray) [.string (⟨#[49, 120]⟩ : ByteArray)] from rfl) (Reps.one (show Kd.M Kd.string _ _ _ ((⟨#[57, 57, 57, 57, 57, 57]⟩ : ByteArray) : ByteArray) [.string (⟨#[57, 57, 57, 57, 57, 57]⟩ : ByteArray)] from rfl) (Reps.one (show Kd.M Kd.string _ _ _ ((⟨#[49, 48, 48, 48, 48, 48, 48]⟩ : ByteArray) : ByteArray) [.string (⟨#[49, 48, 48, 48, 48, 48, 48]⟩ : ByteArray)] from rfl) (Reps.one (show Kd.M Kd.string _ _ _ ((⟨#[45, 57, 57, 57, 57, 57, 57]⟩ : ByteArray) : ByteArray) [.string (⟨#[45, 57, 57, 57, 57, 57, 57]⟩ : ByteArray)] from rfl) (Reps.one (show Kd.M Kd.string _ _ _ ((⟨#[49, 56, 52, 52, 54, 55, 52, 52, 48, 55, 51, 55, 48, 57, 53, 53, 49, 54, 49, 55]⟩ : ByteArray) : ByteArray) [.string (⟨#[49, 56, 52, 52, 54, 55, 52, 52, 48, 55, 51, 55, 48, 57, 53, 53, 49, 54, 49, 55]⟩ : ByteArray)] from rfl) (Reps.none _ _))))))))))))); intro v w3 ho hb hg_ hnew_; clear hnew_; (first | rw [← HT.out] at ho | (simp only [Int.reduceToNat] at ho; rw [← HT.out] at ho)); replace HI := zM (IsS57.grown (by (repeat (first | (with_reducible first | exact HI.out | apply IsS57.drewN | apply IsS57.drew) | exact HI.out)); done) hg_ (by simp)); replace HB := zM hb; clear hb hg_; obtain ⟨Ao, co, eo⟩ := Kd.R_slice ho; subst eo; have HQ := zM ho; clear ho)
      | ((have h_ : IsS57 w _ g l p1 s1 := HI.out); clear h_; go_at_call 47; refine (spec_l1Cur_of.calls g l p1 s1 Ao co ts t2 p2 s2 w _ (by (repeat (first | (with_reducible first | exact HI.out | apply IsS57.drewN | apply IsS57.drew) | exact HI.out)); done) (by (repeat (first | (with_reducible first | exact HB.out | apply pw_below_drewN | apply below_drew1) | exact HB.out)); done) (zC (Kd.R_reads' HQ.out).2.2) (Kd.R_reads' HQ.out).2.1 (far_slice (IsS57.own_ne HI.out HQ.out (by decide))) E2.out).mono ?_; rintro e w6 ⟨rfl, hi, hb, hk⟩; replace HB := zM hb; replace HI := zM hi; clear hb hi hk))
    go_ret
    exact ⟨rfl, (by (repeat (first | (with_reducible first | exact HB.out | apply pw_below_drewN | apply below_drew1) | exact HB.out)); done)⟩
  | false =>
    obtain ⟨b2, p2, s2, e2, z2, z2b, b2a, b2b⟩ := pick_some (s := s1) (n := 2000) hl b1a (by omega)
    obtain ⟨d, hd⟩ : ∃ d : Int, d = b2 - 1000 := ⟨_, rfl⟩
    have n1 : wrap64 (b2 - 1000) = d := by rw [hd]; exact wrap_nat (by omega) (by omega)
    obtain ⟨kn, hkn⟩ := (num_any d (by omega) (by omega)).rounds
    have z3 : (str (Lib.itoa d)).size ≤ 21 := by rw [str_size]; exact Lib.itoa_length_le d (by omega) (by omega)
    refine ⟨str (Lib.itoa d), z3, fun A cp w hr hc => ?_⟩
    generalize str (Lib.itoa d) = t at hkn
    have HB := zM (Below.refl w.heap.size w)
    have HR := zM hr
    have E1 := zM e1
    have E2 := zM e2
    have E3 := zM hkn
    clear e1 e2 z2 z2b z3 b1a b1b b2a b2b hl hr hc hkn hd
    go_enter Tryd.func32, Tryd.ntmps32
    go_wp2_with (first
      | ((with_reducible refine gate_dst (N := 6) rfl ?_); refine ze 6 #[.slice A l.length cp, .int .i64 0, .int .u64 0] 57 ?_; intro g hg w1 hbox hb; have HI := zM (show IsS57 w w1 g l 0 0 from ⟨A, cp, hbox, by rw [hg]; exact below_size HB.out, HR.out⟩); replace HB := zM (below_step HB.out hb); clear hg hbox hb)
      | ((have h_ : IsS57 w _ g l 0 0 := HI.out); clear h_; go_at_call 49; refine (spec_l1Cur_one.calls g l 0 0 2 false p1 s1 w _ (by (repeat (first | (with_reducible first | exact HI.out | apply IsS57.drewN | apply IsS57.drew) | exact HI.out)); done) (by (repeat (first | (with_reducible first | exact HB.out | apply pw_below_drewN | apply below_drew1) | exact HB.out)); done) E1.out).mono ?_; rintro e w6 ⟨rfl, hi, hb, hk⟩; replace HB := zM hb; replace HI := zM hi; clear hb hi hk)
      | ((have h_ : IsS57 w _ g l p1 s1 := HI.out); clear h_; go_at_call 48; refine (spec_l1Cur_pick.calls g l p1 s1 2000 b2 p2 s2 w _ (by (repeat (first | (with_reducible first | exact HI.out | apply IsS57.drewN | apply IsS57.drew) | exact HI.out)); done) (by (repeat (first | (with_reducible first | exact HB.out | apply pw_below_drewN | apply below_drew1) | exact HB.out)); done) E2.out).mono ?_; rintro e w6 ⟨rfl, hi, hb, hk⟩; replace HB := zM hb; replace HI := zM hi; clear hb hi hk)
      | (go_at_call 36; refine (spec_l1Num.calls kn d t _ E3.out).mono ?_; rintro e w6 ⟨rfl, hb⟩; replace HB := zM (below_step (by (repeat (first | (with_reducible first | exact HB.out | apply pw_below_drewN | apply below_drew1) | exact HB.out)); done) hb); clear hb))
    go_ret
    exact ⟨rfl, (by (repeat (first | (with_reducible first | exact HB.out | apply pw_below_drewN | apply below_drew1) | exact HB.out)); done)⟩
set_option maxRecDepth 100000 in
set_option maxHeartbeats 4000000 in
theorem spec_DrawAppendChecksum_calls (l : List Int) (hl : isCode l) : ∃ t : ByteArray, t.size ≤ 4100 ∧ ∀ (A : Option Addr) (cp : Nat) (w : World), Kd.C (Kd.int .u8) w A l.length l → l.length ≤ cp →
    Calls Tryd.prog 33 #[.slice A l.length cp] w fun e w' => e = .returned (.string t) ∧ Below w.heap.size w w' := by
  obtain ⟨bb, p1, s1, e1, b1a, b1b⟩ := one_some (s := 0) (n := 20) hl (Int.le_refl 0) (by omega)
  cases bb with
  | true =>
    obtain ⟨b4, p4, s4, e4, z4, z4b, b4a, b4b⟩ := pick_some (s := s1) (n := 10) hl b1a (by omega)
    obtain ⟨k, rfl⟩ := Int.eq_ofNat_of_zero_le z4
    obtain ⟨K, hK⟩ : ∃ K : Nat, K = 3990 + k := ⟨_, rfl⟩
    obtain ⟨zx, hzx⟩ : ∃ z : ByteArray, z = strOfNums (List.replicate K 0) := ⟨_, rfl⟩
    have HZX := zM hzx
    have n1 : (3990 : Int) + (k : Int) = (K : Int) := by omega
    have n2 : wrap64 (K : Int) = (K : Int) := wrap_nat (by omega) (by omega)
    have n3 : wrap64 ((3990 : Int) + (k : Int)) = (K : Int) := by rw [n1, n2]
    have HKK := zM (show 0 < K ∧ K ≤ 4010 by omega)
    have hz : zx.size ≤ 4100 := by rw [hzx, strOfNums_size, List.length_replicate]; omega
    refine ⟨zx, hz, fun A cp w hr hc => ?_⟩
    have HB := zM (Below.refl w.heap.size w)
    have HR := zM hr
    have E1 := zM e1
    have E4 := zM e4
    clear e1 e4 z4 z4b b4a b4b b1a b1b hl hr hc hK hzx hz
    go_enter Tryd.func33, Tryd.ntmps33
    go_wp2_with (first
      | ((with_reducible refine gate_dst (N := 6) rfl ?_); refine ze 6 #[.slice A l.length cp, .int .i64 0, .int .u64 0] 57 ?_; intro g hg w1 hbox hb; have HI := zM (show IsS57 w w1 g l 0 0 from ⟨A, cp, hbox, by rw [hg]; exact below_size HB.out, HR.out⟩); replace HB := zM (below_step HB.out hb); clear hg hbox hb)
      | ((have h_ : IsS57 w _ g l 0 0 := HI.out); clear h_; go_at_call 49; refine (spec_l1Cur_one.calls g l 0 0 20 true p1 s1 w _ (by (repeat (first | (with_reducible first | exact HI.out | apply IsS57.drewN | apply IsS57.drew) | exact HI.out)); done) (by (repeat (first | (with_reducible first | exact HB.out | apply pw_below_drewN | apply below_drew1) | exact HB.out)); done) E1.out).mono ?_; rintro e w6 ⟨rfl, hi, hb, hk⟩; replace HB := zM hb; replace HI := zM hi; clear hb hi hk)
      | ((have h_ : IsS57 w _ g l p1 s1 := HI.out); clear h_; go_at_call 48; refine (spec_l1Cur_pick.calls g l p1 s1 10 (k : Int) p4 s4 w _ (by (repeat (first | (with_reducible first | exact HI.out | apply IsS57.drewN | apply IsS57.drew) | exact HI.out)); done) (by (repeat (first | (with_reducible first | exact HB.out | apply pw_below_drewN | apply below_drew1) | exact HB.out)); done) E4.out).mono ?_; rintro e w6 ⟨rfl, hi, hb, hk⟩; replace HB := zM hb; replace HI := zM hi; clear hb hi hk)
      | ((with_reducible refine gate_dst (N := 12) rfl ?_); refine Kd.R_make (Kd.int .u8) w.heap.size 5 rfl (w0 := w) (N := 12) rfl 33 (.tmp 11) (.tmp 11) rfl (K : Int) ?hx ?hy Tryd.underlying33 (.int .u8 0) 1 info5 rfl (by decide) (by decide) 0 (ok := fun _ => True) (okp := fun _ => True) ?hz (fun _ hk => hk) trivial (by omega) ?hl (by (repeat (first | (with_reducible first | exact HB.out | apply pw_below_drewN | apply below_drew1) | exact HB.out)); done) (below_size (by (repeat (first | (with_reducible first | exact HB.out | apply pw_below_drewN | apply below_drew1) | exact HB.out)); done)) ?_; (case hx => first | (go_simp; done) | (go_simp; rfl) | rfl); (case hy => first | (go_simp; done) | (go_simp; rfl) | rfl); (case hz => exact rfl); (case hl => have := HKK.out; omega); intro v30 w30 ho hb hg_ hnew_; clear hnew_; rw [Int.toNat_natCast] at ho; replace HB := zM hb; clear hb hg_; have HV := zM ho; clear ho)
      | ((with_reducible refine gate_dst (N := 13) rfl ?_); refine Kd.event_run rfl (conv_zeros zx (.tmp 12) rfl rfl HZX.out (zR HV.out) HKK.out.1) ?_))
    go_ret
    exact ⟨rfl, (by (repeat (first | (with_reducible first | exact HB.out | apply pw_below_drewN | apply below_drew1) | exact HB.out)); done)⟩
  | false =>
    obtain ⟨t2, p2, s2, e2, z2, b2a, b2b⟩ := any1_some (s := s1) hl b1a (by omega)
    refine ⟨t2, by omega, fun A cp w hr hc => ?_⟩
    have HB := zM (Below.refl w.heap.size w)
    have HR := zM hr
    have E1 := zM e1
    have E2 := zM e2
    clear e1 e2 z2 b2a b2b b1a b1b hl hr hc
    go_enter Tryd.func33, Tryd.ntmps33
    go_wp2_with (first
      | ((with_reducible refine gate_dst (N := 6) rfl ?_); refine ze 6 #[.slice A l.length cp, .int .i64 0, .int .u64 0] 57 ?_; intro g hg w1 hbox hb; have HI := zM (show IsS57 w w1 g l 0 0 from ⟨A, cp, hbox, by rw [hg]; exact below_size HB.out, HR.out⟩); replace HB := zM (below_step HB.out hb); clear hg hbox hb)
      | ((have h_ : IsS57 w _ g l 0 0 := HI.out); clear h_; go_at_call 49; refine (spec_l1Cur_one.calls g l 0 0 20 false p1 s1 w _ (by (repeat (first | (with_reducible first | exact HI.out | apply IsS57.drewN | apply IsS57.drew) | exact HI.out)); done) (by (repeat (first | (with_reducible first | exact HB.out | apply pw_below_drewN | apply below_drew1) | exact HB.out)); done) E1.out).mono ?_; rintro e w6 ⟨rfl, hi, hb, hk⟩; replace HB := zM hb; replace HI := zM hi; clear hb hi hk)
      | ((have h_ : IsS57 w _ g l p1 s1 := HI.out); clear h_; go_at_call 46; refine (spec_l1Cur_any1.calls g l p1 s1 t2 p2 s2 w _ (by (repeat (first | (with_reducible first | exact HI.out | apply IsS57.drewN | apply IsS57.drew) | exact HI.out)); done) (by (repeat (first | (with_reducible first | exact HB.out | apply pw_below_drewN | apply below_drew1) | exact HB.out)); done) E2.out).mono ?_; rintro e w6 ⟨rfl, hi, hb, hk⟩; replace HB := zM hb; replace HI := zM hi; clear hb hi hk))
    go_ret
    exact ⟨rfl, (by (repeat (first | (with_reducible first | exact HB.out | apply pw_below_drewN | apply below_drew1) | exact HB.out)); done)⟩
end Go.Proofs.YtcjfmohmjhjpoaaDoor.P
namespace Go.Proofs.YtcjfmohmjhjpoaaDoor.P
open Go.RowKit Go.Proofs.YtcjfmohmjhjpoaaDoorW.PrintWords Go.Proofs.YtcjfmohmjhjpoaaDoorW.PrintLast Go.Proofs.YtcjfmohmjhjpoaaDoorW.PrintMore
set_option linter.unusedVariables false
set_option linter.unusedSimpArgs false
/-- The checksum of bytes, from a number on. -/
def sumL : List UInt8 → Int → Int
  | [], h => h
  | b :: l, h => sumL l ((41 * h + (b.toNat : Int) + 1) % 999979)
theorem sumL_in : ∀ (l : List UInt8) (h : Int), 0 ≤ h → h < 999979 → 0 ≤ sumL l h ∧ sumL l h < 999979
  | [], h, h0, h1 => ⟨h0, h1⟩
  | b :: l, h, h0, h1 => sumL_in l _ (by omega) (by omega)
theorem sumL_ne : ∀ (l : List UInt8) (h g : Int), 0 ≤ h → h < 999979 → 0 ≤ g → g < 999979 → h ≠ g → sumL l h ≠ sumL l g
  | [], h, g, _, _, _, _, e => e
  | b :: l, h, g, h0, h1, g0, g1, e => by
    have hb := b.toNat_lt
    refine sumL_ne l _ _ (by omega) (by omega) (by omega) (by omega) ?_
    omega
theorem sumL_set : ∀ (l : List UInt8) (k : Nat) (c : UInt8) (h : Int), 0 ≤ h → h < 999979 → (hk : k < l.length) → c ≠ l[k] → sumL (l.set k c) h ≠ sumL l h
  | [], k, c, h, _, _, hk, _ => absurd hk (by simp)
  | b :: l, 0, c, h, h0, h1, hk, hc => by
    have hc' : c ≠ b := hc
    have hn : c.toNat ≠ b.toNat := fun e => hc' (UInt8.toNat_inj.1 e)
    have hb := b.toNat_lt
    have hcb := c.toNat_lt
    show sumL l _ ≠ sumL l _
    refine sumL_ne l _ _ (by omega) (by omega) (by omega) (by omega) ?_
    omega
  | b :: l, k + 1, c, h, h0, h1, hk, hc => by
    show sumL (l.set k c) _ ≠ sumL l _
    exact sumL_set l k c _ (by omega) (by omega) (by simpa using hk) (by simpa using hc)
theorem sumF_L (s : ByteArray) : ∀ (n m : Nat) (h : Int), s.data.toList.length = m + n → 0 ≤ h → h < 999979 → sumF s n h (m : Int) = sumL (s.data.toList.drop m) h
  | 0, m, h, hn, h0, h1 => by rw [List.drop_of_length_le (by omega)]; rfl
  | n + 1, m, h, hn, h0, h1 => by
    have hm : m < s.data.toList.length := by omega
    rw [List.drop_eq_getElem_cons hm]
    have hb := (s.data.toList[m]).toNat_lt
    show sumF s n _ ((m : Int) + 1) = sumL (s.data.toList.drop (m + 1)) _
    rw [bt_nat s m hm]
    have w1 : wrap64 (41 * h) = 41 * h := wrap_nat (by omega) (by omega)
    have w2 : wrap64 ((s.data.toList[m]).toNat : Int) = ((s.data.toList[m]).toNat : Int) := wrap_nat (by omega) (by omega)
    have w3 : wrap64 (41 * h + ((s.data.toList[m]).toNat : Int)) = 41 * h + ((s.data.toList[m]).toNat : Int) := wrap_nat (by omega) (by omega)
    have w4 : wrap64 (41 * h + ((s.data.toList[m]).toNat : Int) + 1) = 41 * h + ((s.data.toList[m]).toNat : Int) + 1 := wrap_nat (by omega) (by omega)
    rw [w1, w2, w3, w4, Int.tmod_eq_emod_of_nonneg (by omega), show (m : Int) + 1 = ((m + 1 : Nat) : Int) by omega]
    exact sumF_L s n (m + 1) _ (by omega) (by omega) (by omega)
theorem sumI_L (s : ByteArray) : sumI s = sumL s.data.toList 7 := by
  have := sumF_L s s.size 0 7 (by rw [size_len]; omega) (by decide) (by decide)
  rw [List.drop_zero] at this
  exact this
theorem dig_ne {c : UInt8} (h : isDig c = true) : c ≠ 35 := by
  intro e; subst e; revert h; decide
theorem dec_free (n : Nat) : ¬ (35 : UInt8) ∈ Lib.decDigits n := fun h => dig_ne (List.all_eq_true.1 (dec_dig n) _ h) rfl
theorem itoa_free (n : Int) : ¬ (35 : UInt8) ∈ Lib.itoa n := by
  unfold Lib.itoa
  split
  · intro h
    rcases List.mem_cons.1 h with h | h
    · exact absurd h (by decide)
    · exact dec_free _ h
  · exact dec_free _
theorem itoa_inj {a b : Int} (ha : 0 ≤ a) (hb : 0 ≤ b) (h : Lib.itoa a = Lib.itoa b) : a = b := by
  unfold Lib.itoa at h
  rw [if_neg (by omega), if_neg (by omega)] at h
  have := dec_val a.toNat
  rw [h, dec_val] at this
  omega
theorem parted {α : Type} {p : α} : ∀ {a b m n : List α}, ¬ p ∈ a → ¬ p ∈ b → a ++ p :: m = b ++ p :: n → a = b ∧ m = n
  | [], [], m, n, _, _, h => ⟨rfl, (List.cons.inj h).2⟩
  | [], y :: b, m, n, _, hb, h => absurd ((List.cons.inj h).1) (fun e => hb (by rw [e]; exact List.mem_cons_self ..))
  | x :: a, [], m, n, ha, _, h => absurd ((List.cons.inj h).1) (fun e => ha (by rw [← e]; exact List.mem_cons_self ..))
  | x :: a, y :: b, m, n, ha, hb, h => by
    obtain ⟨e1, e2⟩ := List.cons.inj h
    obtain ⟨e3, e4⟩ := parted (fun q => ha (List.mem_cons_of_mem _ q)) (fun q => hb (List.mem_cons_of_mem _ q)) e2
    exact ⟨by rw [e1, e3], e4⟩
theorem seal_list (s : ByteArray) : (sealB s).data.toList = s.data.toList ++ 35 :: Lib.itoa (sumI s) := by
  rw [sealB, ByteArray.data_append, ByteArray.data_append]
  simp [str]
theorem head_list (x : List UInt8) (hx : ¬ (35 : UInt8) ∈ x) (m : List UInt8) : (spl 35 (x ++ 35 :: m)).headD [] = x := by
  induction x with
  | nil => show (spl 35 (35 :: m)).headD [] = []; rw [spl, if_pos rfl]; rfl
  | cons b l ih =>
    have hb : b ≠ 35 := fun e => hx (by rw [e]; exact List.mem_cons_self ..)
    have ih := ih (fun q => hx (List.mem_cons_of_mem _ q))
    show (spl 35 (b :: (l ++ 35 :: m))).headD [] = b :: l
    rw [spl, if_neg hb]
    cases hz : spl 35 (l ++ 35 :: m) with
    | nil => exact absurd hz (spl_ne _ _)
    | cons y r => rw [hz] at ih; simp only [pre, List.headD_cons, List.singleton_append] at ih ⊢; rw [ih]
theorem head_seal (x : ByteArray) (hx : ¬ (35 : UInt8) ∈ x.data.toList) : headB (sealB x) = x := by
  rw [headB, ← spl_head, seal_list, head_list _ hx, str_data]
theorem ver_seal (x : ByteArray) (hx : ¬ (35 : UInt8) ∈ x.data.toList) (hs : (sealB x).size ≤ 4000) : verR (sealB x) = (x, true) := by
  unfold verR
  rw [head_seal x hx]
  exact if_pos ⟨hs, rfl⟩
theorem set_mid {α : Type} (X : List α) (p c : α) (N : List α) : (X ++ p :: N).set X.length c = X ++ c :: N := by
  induction X with
  | nil => rfl
  | cons x X ih => simp [ih]
theorem ver_changed (x y : ByteArray) (k : Nat) (c : UInt8) (hx : ¬ (35 : UInt8) ∈ x.data.toList) (hk : k < (sealB x).data.toList.length) (hc : c ≠ (sealB x).data.toList[k]) (hy : y.data.toList = (sealB x).data.toList.set k c) : verR y = (⟨#[]⟩, false) := by
  unfold verR
  refine if_neg ?_
  rintro ⟨_, he⟩
  have hf := headB_free y
  generalize headB y = h at he hf
  have e : h.data.toList ++ 35 :: Lib.itoa (sumI h) = (sealB x).data.toList.set k c := by rw [← seal_list, he, hy]
  have hl := seal_list x
  have hk2 : k < (x.data.toList ++ 35 :: Lib.itoa (sumI x)).length := by rw [← hl]; exact hk
  have hc2 : c ≠ (x.data.toList ++ 35 :: Lib.itoa (sumI x))[k] := by
    intro q; apply hc; rw [q]; congr 1; exact hl.symm
  rw [hl] at e
  clear hc hk hl hy he
  have hNf := itoa_free (sumI x)
  have hMf := itoa_free (sumI h)
  have hM := sumI_L h
  have hN := sumI_L x
  have hhr := sumL_in h.data.toList 7 (by decide) (by decide)
  have hxr := sumL_in x.data.toList 7 (by decide) (by decide)
  rcases Nat.lt_trichotomy k x.data.toList.length with h1 | h1 | h1
  · rw [List.set_append_left _ _ h1] at e
    have hcx : c ≠ x.data.toList[k] := by
      intro q; apply hc2; rw [q, List.getElem_append_left h1]
    by_cases c35 : c = 35
    · subst c35
      have e2 : x.data.toList.set k 35 = x.data.toList.take k ++ 35 :: x.data.toList.drop (k + 1) := List.set_eq_take_append_cons_drop ▸ (by rw [if_pos h1])
      rw [e2, List.append_assoc] at e
      have := parted hf (fun q => hx (List.mem_of_mem_take q)) e
      exact hMf (by rw [this.2]; simp)
    · have hset : ¬ (35 : UInt8) ∈ x.data.toList.set k c := by
        intro q
        rcases List.mem_or_eq_of_mem_set q with q | q
        · exact hx q
        · exact c35 q.symm
      obtain ⟨a1, a2⟩ := parted hf hset e
      have a3 := itoa_inj (by omega) (by omega) a2
      rw [hM, hN, a1] at a3
      exact sumL_set x.data.toList k c 7 (by decide) (by decide) h1 hcx a3
  · subst h1
    rw [set_mid] at e
    have hc35 : c ≠ 35 := by
      intro q; apply hc2; rw [q]; simp
    have : (35 : UInt8) ∈ x.data.toList ++ c :: Lib.itoa (sumI x) := by rw [← e]; simp
    rcases List.mem_append.1 this with q | q
    · exact hx q
    · rcases List.mem_cons.1 q with q | q
      · exact hc35 q.symm
      · exact hNf q
  · rw [List.set_append_right _ _ (by omega)] at e
    obtain ⟨j, hj⟩ : ∃ j, k - x.data.toList.length = j + 1 := ⟨k - x.data.toList.length - 1, by omega⟩
    rw [hj] at e
    have e' : h.data.toList ++ 35 :: Lib.itoa (sumI h) = x.data.toList ++ 35 :: (Lib.itoa (sumI x)).set j c := e
    obtain ⟨a1, a2⟩ := parted hf hx e'
    rw [hM, a1, ← hN] at a2
    have hj2 : j < (Lib.itoa (sumI x)).length := by
      have h2 := hk2
      rw [List.length_append, List.length_cons] at h2
      omega
    have q : c = (Lib.itoa (sumI x))[j] := by
      have h3 : ((Lib.itoa (sumI x)).set j c)[j]'(by rw [List.length_set]; exact hj2) = c := List.getElem_set_self _
      rw [← h3]; congr 1; exact a2.symm
    apply hc2
    rw [q, List.getElem_append_right (by omega)]
    simp only [hj, List.getElem_cons_succ]
end Go.Proofs.YtcjfmohmjhjpoaaDoor.P
namespace Go.Proofs.YtcjfmohmjhjpoaaDoor.P
open Go.RowKit Go.Proofs.YtcjfmohmjhjpoaaDoorW.PrintWords Go.Proofs.YtcjfmohmjhjpoaaDoorW.PrintLast Go.Proofs.YtcjfmohmjhjpoaaDoorW.PrintMore
set_option linter.unusedVariables false
set_option linter.unusedSimpArgs false
/-- A row of bytes of one's own, whose cell behind the last is marked. -/
def BB (w : World) (g : Nat) (xs : List Int) : Prop := ∃ (cells : Array Value) (fr : Nat), w.heap[g]? = some (.cells cells 5 (fr, fr + 1)) ∧ xs.length ≤ fr ∧ xs.length ≤ cells.size ∧ ∀ (j : Nat) (hj : j < xs.length), cells[j]? = some (.int .u8 xs[j])
theorem u8_wrap {x : Int} (h0 : 0 ≤ x) (h1 : x ≤ 255) : IntKind.u8.wrap x = x := by
  have e : x % 256 = x := by omega
  have h : IntKind.u8.wrap x = x % 256 := rfl
  rw [h, e]
theorem BB.cell {w : World} {g : Nat} {xs : List Int} (h : BB w g xs) (j : Nat) (hj : j < xs.length) : w.cell? ⟨g, j, none⟩ = some (.int .u8 xs[j]) := by
  obtain ⟨cells, fr, hh, _, _, hc⟩ := h
  rw [cell_of_row w g _ cells _ (fr, fr + 1) hh]
  exact hc j hj
theorem BB.cell2 {w : World} {g : Nat} {xs : List Int} (h : BB w g xs) {j : Nat} {x : Int} (e : xs[j]? = some x) : w.cell? ⟨g, j, none⟩ = some (.int .u8 x) := by
  obtain ⟨hj, rfl⟩ := List.getElem?_eq_some_iff.1 e
  exact h.cell j hj
theorem BB.frozen {w : World} {g : Nat} {xs : List Int} (h : BB w g xs) (j : Nat) (hj : j < xs.length) : w.frozen? ⟨g, j, none⟩ = false := by
  obtain ⟨cells, fr, hh, hf, _, hc⟩ := h
  simp only [World.frozen?, hh, Bool.and_eq_false_iff, decide_eq_false_iff_not]
  left
  omega
theorem BB.move {w w' : World} {g : Nat} {xs : List Int} (h : BB w g xs) (e : w'.heap[g]? = w.heap[g]?) : BB w' g xs := by
  obtain ⟨cells, fr, hh, hf, hs, hc⟩ := h
  exact ⟨cells, fr, e.trans hh, hf, hs, hc⟩
theorem BB.lt {w : World} {g : Nat} {xs : List Int} (h : BB w g xs) : g < w.heap.size := by
  obtain ⟨cells, fr, hh, _⟩ := h
  exact (Array.getElem?_eq_some_iff.1 hh).1
theorem BB.below {w w' : World} {g : Nat} {xs : List Int} (h : BB w g xs) (hb : Below w.heap.size w w') : BB w' g xs := h.move (hb.block g h.lt)
theorem BB.set {w : World} {g : Nat} {xs : List Int} (h : BB w g xs) (j : Nat) (hj : j < xs.length) (x : Int) : BB (w.setCell ⟨g, j, none⟩ (.int .u8 x)) g (xs.set j x) := by
  obtain ⟨cells, fr, hh, hf, hs, hc⟩ := h
  have hlt : g < w.heap.size := (Array.getElem?_eq_some_iff.1 hh).1
  have hg : w.heap[g] = .cells cells 5 (fr, fr + 1) := by
    have := (Array.getElem?_eq_some_iff.1 hh).2
    exact this
  refine ⟨cells.setIfInBounds j (.int .u8 x), fr, ?_, by rw [List.length_set]; exact hf, by rw [List.length_set]; simpa using hs, fun i hi => ?_⟩
  · simp [World.setCell, Array.getElem?_modify, hh]
  · rw [List.length_set] at hi
    rw [Array.getElem?_setIfInBounds, List.getElem_set]
    by_cases e : j = i
    · subst e
      rw [if_pos rfl, if_pos (by omega), if_pos rfl]
    · rw [if_neg e, if_neg e]
      exact hc i hi
/-- The bytes of a string, as numbers. -/
def bytesL (s : ByteArray) : List Int := s.data.toList.map fun b => (b.toNat : Int)
theorem bytesL_len (s : ByteArray) : (bytesL s).length = s.size := by rw [bytesL, List.length_map, size_len]
theorem to_bytes (w : World) (s : ByteArray) : ∃ cap w', (convert 9 33 (.string s)).run Tryd.prog w = .ok (.slice (some ⟨w.heap.size, 0, none⟩) s.size cap) w' ∧ BB w' w.heap.size (bytesL s) ∧ Below w.heap.size w w' := by
  refine ⟨_, _, run_bytes_of_string w 9 33 5 s (by kernel_rfl) Tryd.underlying33 (by kernel_rfl), ?_, below_alloc (below_drew (Below.refl _ _)) _⟩
  generalize grownCap w s.size 0 5 = cap
  have hsz : (bytesRow s cap).size = s.size + (cap - s.size) := by
    show (s.data.map _ ++ Array.replicate _ _).size = _
    rw [Array.size_append, Array.size_map, Array.size_replicate]
    rfl
  refine ⟨bytesRow s cap, (bytesRow s cap).size, ?_, by rw [bytesL_len, hsz]; omega, by rw [bytesL_len, hsz]; omega, fun j hj => ?_⟩
  · show (w.heap.push _)[w.heap.size]? = _
    simp
  · have hj2 : j < s.data.size := by rw [bytesL_len] at hj; exact hj
    rw [bytesRow_at s cap j hj2]
    simp [bytesL]
theorem from_bytes {w : World} {g : Nat} {xs : List Int} (h : BB w g xs) (cap : Nat) : (convert 33 9 (.slice (some ⟨g, 0, none⟩) xs.length cap)).run Tryd.prog w = .ok (.string (strOfNums xs)) w :=
  run_convert_bytes_arg w 33 5 Tryd.underlying33 (by kernel_rfl) g 0 xs.length cap xs rfl (fun i hi => by
    rw [Nat.zero_add, h.cell i hi]
    simp [List.getD_eq_getElem?_getD, List.getElem?_eq_getElem hi]) 9 (by kernel_rfl)
theorem store_byte {w : World} {g : Nat} {xs : List Int} (h : BB w g xs) (j : Nat) (hj : j < xs.length) (x : Int) : (Instr.storeAt 5 (.pointer (some ⟨g, j, none⟩)) (.int .u8 x)).run Tryd.prog w = .ok () (w.setCell ⟨g, j, none⟩ (.int .u8 x)) := by
  have hst := run_storeCells_cells (P := Tryd.prog) g j [.int .u8 x] 0 w (fun i hi => by
    have : i = 0 := by simpa using hi
    subst this
    simpa using by rw [h.cell j hj]; rfl) (fun i hi => by
    have : i = 0 := by simpa using hi
    subst this
    simpa using h.frozen j hj) (fun v hv => by rw [List.mem_singleton.1 hv]; rfl)
  obtain ⟨i, hi, hsz⟩ := Option.map_eq_some_iff.1 (show (Tryd.prog.info? 5).map (·.size) = some 1 by kernel_rfl)
  simp only [Nat.add_zero] at hst
  have e : w.setCells g j [.int .u8 x] = w.setCell ⟨g, j, none⟩ (.int .u8 x) := rfl
  rw [e] at hst
  simp [Instr.storeAt, Instr.sureAddr, storeVar, sizeOf, typeInfo, hi, hsz, Value.cells, hst]
/-- A byte with another one that is not zero laid over it is another byte. -/
theorem xor_other (x e : Int) (h0 : 0 ≤ x) (h1 : x ≤ 255) (e0 : 1 ≤ e) (e1 : e ≤ 255) : ∃ r : Int, Go.bits .xor .u8 x e = r ∧ 0 ≤ r ∧ r ≤ 255 ∧ r ≠ x := by
  obtain ⟨a, ha⟩ : ∃ a : Nat, x = (a : Int) := ⟨x.toNat, by omega⟩
  obtain ⟨c, hc⟩ : ∃ c : Nat, e = (c : Int) := ⟨e.toNat, by omega⟩
  subst ha; subst hc
  have key : ∀ p q : BitVec 8, q ≠ 0 → p ^^^ q ≠ p := by
    intro p q hq h
    apply hq
    have h2 : p ^^^ (p ^^^ q) = p ^^^ p := by rw [h]
    rw [← BitVec.xor_assoc, BitVec.xor_self, BitVec.zero_xor] at h2
    exact h2
  have hp : (BitVec.ofInt 8 (a : Int)).toNat = a := by rw [BitVec.toNat_ofInt]; omega
  have hq : (BitVec.ofInt 8 (c : Int)).toNat = c := by rw [BitVec.toNat_ofInt]; omega
  have hk := key (BitVec.ofInt 8 (a : Int)) (BitVec.ofInt 8 (c : Int)) (fun h => by
    have := congrArg BitVec.toNat h
    rw [hq] at this
    have : c = 0 := this
    omega)
  have hr : (BitVec.ofInt 8 (a : Int) ^^^ BitVec.ofInt 8 (c : Int)).toNat < 256 := (BitVec.ofInt 8 (a : Int) ^^^ BitVec.ofInt 8 (c : Int)).isLt
  have hne : (BitVec.ofInt 8 (a : Int) ^^^ BitVec.ofInt 8 (c : Int)).toNat ≠ a := fun h => hk (BitVec.eq_of_toNat_eq (by rw [h, hp]))
  have e0 : Go.bits .xor .u8 (a : Int) (c : Int) = IntKind.u8.wrap (((BitVec.ofInt 8 (a : Int)) ^^^ (BitVec.ofInt 8 (c : Int))).toNat : Int) := rfl
  refine ⟨_, e0, ?_⟩
  simp only [IntKind.wrap]
  generalize (BitVec.ofInt 8 (a : Int) ^^^ BitVec.ofInt 8 (c : Int)).toNat = n at hr hne ⊢
  have en : (n : Int) % 256 = n := by omega
  first | (rw [en]; omega) | (simp [IntKind.signed, IntKind.bits]; omega) | (split <;> omega)
/-- The string with one byte changed. -/
theorem set_str (s : ByteArray) (k : Nat) (r : Int) (h0 : 0 ≤ r) (h1 : r ≤ 255) : (strOfNums ((bytesL s).set k r)).data.toList = s.data.toList.set k (UInt8.ofNat r.toNat) := by
  rw [strOfNums_data, bytesL, List.map_set, List.map_map]
  congr 1
  have : ((fun n : Int => UInt8.ofNat n.toNat) ∘ fun b : UInt8 => (b.toNat : Int)) = id := by
    funext b
    show UInt8.ofNat ((b.toNat : Int)).toNat = b
    rw [Int.toNat_natCast]
    exact UInt8.ofNat_toNat
  rw [this, List.map_id]
theorem ver_struck (x : ByteArray) (k : Nat) (r : Int) (hx : ¬ (35 : UInt8) ∈ x.data.toList) (hk : k < (bytesL (sealB x)).length) (h0 : 0 ≤ r) (h1 : r ≤ 255) (hr : r ≠ (bytesL (sealB x))[k]) : verR (strOfNums ((bytesL (sealB x)).set k r)) = (⟨#[]⟩, false) := by
  have hk2 : k < (sealB x).data.toList.length := by rw [bytesL, List.length_map] at hk; exact hk
  refine ver_changed x _ k (UInt8.ofNat r.toNat) hx hk2 ?_ (set_str (sealB x) k r h0 h1)
  intro e
  apply hr
  have e2 : (bytesL (sealB x))[k] = (((sealB x).data.toList[k]).toNat : Int) := by simp [bytesL]
  rw [e2, ← e]
  have : (UInt8.ofNat r.toNat).toNat = r.toNat := by
    rw [UInt8.toNat_ofNat']
    omega
  rw [this]
  omega
section
variable {ops : Array Oper} {Q : Exit → Act → World → Prop} {rest : List Oper} {o : Oper} {a : Act} {W : World}
theorem to_bytes_event (y : ByteArray) (x : Operand) (hg : o.guard = none) (ho : o.op = .convert 9 33 x) (hx : a.eval x = .string y)
    (h : ∀ g cap w', g = W.heap.size → BB w' g (bytesL y) → Below W.heap.size W w' → wpList Tryd.prog ops Q rest (a.put o.dst (.slice (some ⟨g, 0, none⟩) y.size cap)) w') : wpList Tryd.prog ops Q (o :: rest) a W := by
  obtain ⟨cap, w', hr, hb, hbel⟩ := to_bytes W y
  have hrun : (execOp a.eval o).run Tryd.prog W = .ok (.value (.slice (some ⟨W.heap.size, 0, none⟩) y.size cap)) w' := by simp [execOp, ho, hx, hr]
  exact Kd.event_run hg hrun (h _ _ _ rfl hb hbel)
theorem from_bytes_event (xs : List Int) (n g cap : Nat) (x : Operand) (hg : o.guard = none) (ho : o.op = .convert 33 9 x) (hx : a.eval x = .slice (some ⟨g, 0, none⟩) n cap) (hn : xs.length = n) (hb : BB W g xs)
    (h : wpList Tryd.prog ops Q rest (a.put o.dst (.string (strOfNums xs))) W) : wpList Tryd.prog ops Q (o :: rest) a W := by
  subst hn
  exact Kd.event_run hg (by simp [execOp, ho, hx, from_bytes hb cap]) h
theorem store_byte_run {xs : List Int} {g j : Nat} {x : Int} (p v : Operand) (ho : o.op = .store 5 p v) (hp : a.eval p = .pointer (some ⟨g, j, none⟩)) (hv : a.eval v = .int .u8 x) (hb : BB W g xs) (hj : j < xs.length) :
    (execOp a.eval o).run Tryd.prog W = .ok .skip (W.setCell ⟨g, j, none⟩ (.int .u8 x)) := by
  simp [execOp, ho, hp, hv, store_byte hb j hj x]
end
section
variable {ops : Array Oper} {Q : Exit → Act → World → Prop} {md : Region.Mode} {S : World → Prop} {ds : List Nat} {fuel : Nat} {l : Array Bool} {a : Act} {w : World} {oi : Oper}
/-- The store of a byte, last in a region that draws its order. -/
theorem zw_store {xs : List Int} {g j : Nat} {x : Int} (i : Nat) (p v : Operand) (hb : BB w g xs) (hj : j < xs.length) (hp : a.eval p = .pointer (some ⟨g, j, none⟩)) (hv : a.eval v = .int .u8 x)
    (h : wpAnyLast Tryd.prog md ops Q S ds fuel (l.setIfInBounds i true) a (w.setCell ⟨g, j, none⟩ (.int .u8 x))) (hi : ops[i]? = some oi := by exact rfl) (hN : oi.dst = none := by exact rfl)
    (hc : readyB md ops l (l.setIfInBounds i true) i = true := by kernel_rfl) (hd : i ∈ ds := by decide) (hw : Region.wanted oi (yielded ops a.tmps) = true := by rfl) (ho : oi.op = .store 5 p v := by exact rfl) :
    wpAnyLast Tryd.prog md ops Q S ds (fuel + 1) l a w := by
  refine last_ (l.setIfInBounds i true) hi hN hc hd (fun K hK => ?_)
  rw [if_pos hw]
  unfold Oper.wp
  rw [store_byte_run p v ho hp hv hb hj]
  show K (a.put oi.dst undef) _
  rw [hN]
  exact hK.out _ _ h
end
end Go.Proofs.YtcjfmohmjhjpoaaDoor.P
namespace Go.Proofs.YtcjfmohmjhjpoaaDoor.P
open Go.RowKit Go.Proofs.YtcjfmohmjhjpoaaDoorW.PrintWords Go.Proofs.YtcjfmohmjhjpoaaDoorW.PrintLast Go.Proofs.YtcjfmohmjhjpoaaDoorW.PrintMore
theorem cut_calls (s : ByteArray) (hs : s.size ≤ 1048576) (m : Int) (w : World) (hm : w.cell? ⟨0, 0, none⟩ = some (.int .i64 m)) :
    Calls Tryd.prog 45 #[.string s, .string ⟨#[35]⟩] w fun e w' => ∃ (b : ByteArray) (f : Bool), e = .returned (.tuple #[.string (headB s), .string b, .bool f]) ∧ Below w.heap.size w w' :=
  (Tryd.strings_Cut s ⟨#[35]⟩ m w (by omega) hm).mono fun e w' h => ⟨_, _, h.1, by obtain ⟨_, n, rfl⟩ := h; exact pw_below_drewN (Below.refl _ _) n⟩
set_option maxRecDepth 100000 in
set_option maxHeartbeats 2000000 in
theorem impl_VerifyChecksum_calls (s : ByteArray) (hs : s.size ≤ 1048576) (m : Int) (w : World) (hm : w.cell? ⟨0, 0, none⟩ = some (.int .i64 m)) (hp : Pow w) :
    Calls Tryd.prog 20 #[.string s] w fun e w' => e = .returned (.tuple #[.string (verR s).1, .bool (verR s).2]) ∧ Below w.heap.size w w' := by
  have HB := zM (Below.refl w.heap.size w)
  have hhl := headB_le s
  have hfree := headB_free s
  by_cases h1 : (headB s).size ≤ 4000 ∧ (sealB (headB s)).size ≤ 4000
  case neg =>
    have hr : verR s = (⟨#[]⟩, false) := if_neg (fun h => h1 ⟨by omega, by rw [h.2]; exact h.1⟩)
    have ha : appR (headB s) = (⟨#[]⟩, false) := if_neg (fun h => h1 ⟨h.1, h.2.2⟩)
    rw [hr]
    go_enter Tryd.func20, Tryd.ntmps20
    go_wp2_with (first
      | (go_at_call 45; refine (cut_calls s hs m _ hm).mono ?_; rintro e w' ⟨b, f, rfl, hb⟩; replace HB := zM (below_step HB.out hb); clear hb)
      | (go_at_call 18; refine (impl_AppendChecksum_calls (headB s) (by omega) _ (pow_below hp (by first | exact HB.out | exact below_drew HB.out))).mono ?_; rw [ha]; rintro e w' ⟨rfl, hb⟩; replace HB := zM (below_step (by first | exact HB.out | exact below_drew HB.out) hb); clear hb))
    go_ret2
    exact ⟨by first | rfl | (simp; done), by first | exact HB.out | exact below_drew HB.out⟩
  have ha : appR (headB s) = (sealB (headB s), true) := if_pos ⟨h1.1, hfree, h1.2⟩
  by_cases h2 : sealB (headB s) = s
  · have hr : verR s = (headB s, true) := if_pos ⟨by rw [← h2]; exact h1.2, h2⟩
    rw [hr]
    have c6 := (str_eq_iff _ _).2 h2
    have c6b0 : ((sealB (headB s)).toList == s.toList) = true := beq_iff_eq.mpr c6
    have c6b1 : ((sealB (headB s)).toList != s.toList) = false := bne_eq_false_iff_eq.mpr c6
    go_enter Tryd.func20, Tryd.ntmps20
    go_wp2_with (first
      | (go_at_call 45; refine (cut_calls s hs m _ hm).mono ?_; rintro e w' ⟨b, f, rfl, hb⟩; replace HB := zM (below_step HB.out hb); clear hb)
      | (go_at_call 18; refine (impl_AppendChecksum_calls (headB s) (by omega) _ (pow_below hp (by first | exact HB.out | exact below_drew HB.out))).mono ?_; rw [ha]; rintro e w' ⟨rfl, hb⟩; replace HB := zM (below_step (by first | exact HB.out | exact below_drew HB.out) hb); clear hb))
    go_ret2
    exact ⟨by first | rfl | (simp; done), by first | exact HB.out | exact below_drew HB.out⟩
  · have hr : verR s = (⟨#[]⟩, false) := if_neg (fun h => h2 h.2)
    rw [hr]
    have c6 : ¬ (sealB (headB s)).toList = s.toList := fun h => h2 ((str_eq_iff _ _).1 h)
    have c6b0 : ((sealB (headB s)).toList == s.toList) = false := beq_eq_false_iff_ne.mpr c6
    have c6b1 : ((sealB (headB s)).toList != s.toList) = true := bne_iff_ne.mpr c6
    go_enter Tryd.func20, Tryd.ntmps20
    go_wp2_with (first
      | (go_at_call 45; refine (cut_calls s hs m _ hm).mono ?_; rintro e w' ⟨b, f, rfl, hb⟩; replace HB := zM (below_step HB.out hb); clear hb)
      | (go_at_call 18; refine (impl_AppendChecksum_calls (headB s) (by omega) _ (pow_below hp (by first | exact HB.out | exact below_drew HB.out))).mono ?_; rw [ha]; rintro e w' ⟨rfl, hb⟩; replace HB := zM (below_step (by first | exact HB.out | exact below_drew HB.out) hb); clear hb))
    go_ret2
    exact ⟨by first | rfl | (simp; done), by first | exact HB.out | exact below_drew HB.out⟩
end Go.Proofs.YtcjfmohmjhjpoaaDoor.P
namespace Go.Proofs.YtcjfmohmjhjpoaaDoor.P
open Go.RowKit Go.ChangeShapes Go.Proofs.YtcjfmohmjhjpoaaDoorW.PrintWords Go.Proofs.YtcjfmohmjhjpoaaDoorW.PrintLast Go.Proofs.YtcjfmohmjhjpoaaDoorW.PrintMore
set_option linter.unusedVariables false
set_option linter.unusedSimpArgs false
section
variable {H : Type} {enc : TypeId × Value → H} {W : World} {base : Nat} {held : Bool} {fuel : Nat}
theorem read_bytes {v : Value} {y : DataW H × List MemPlace} (h : DataW.trod enc Tryd.prog W base (fun _ => true) held fuel 33 [v] = some y) :
    ∃ (A : Option Addr) (c : Nat) (l : List Int), v = .slice A l.length c ∧ l.length ≤ c ∧ Kd.C (Kd.int .u8) W A l.length l ∧ l.length ≤ 9223372036854775807 ∧ isCode l := by
  rcases open_ints Tryd.underlying33 Tryd.underlying5 (by kernel_rfl) h with ⟨hcs, _⟩ | ⟨a, len, cap, zs, hcs, _, hl, hm, hz, _, hcell, hwf⟩
  · injection hcs with hv _
    exact ⟨none, 0, [], hv, Nat.le_refl _, ⟨rfl, Nat.zero_le _, fun h0 => absurd h0 (Nat.lt_irrefl _)⟩, Nat.zero_le _, fun n hn => by cases hn⟩
  · injection hcs with hv _
    simp only [if_true] at hz
    have hlen : (zs.take len).length = len := by rw [List.length_take]; omega
    refine ⟨some a, cap, zs.take len, by rw [hlen]; exact hv, by omega, ⟨rfl, by unfold maxLen at hm; omega, fun _ => ⟨a, rfl, fun j p hj => ⟨[.int .u8 p], rfl, rfl, fun i u hi => ?_⟩⟩⟩, by rw [hlen]; unfold maxLen at hm; omega, fun n hn => by have h := hwf n (List.mem_of_mem_take hn); simpa [Lit.wf, show IntKind.u8.min = 0 from by decide, show IntKind.u8.max = 255 from by decide] using h⟩
    cases i with
    | succ i => simp at hi
    | zero =>
      have hu : Value.int .u8 p = u := by simpa using hi
      subst hu
      have hj2 := (List.getElem?_eq_some_iff.1 hj).1
      rw [hlen] at hj2
      have hj3 : zs[j]? = some p := by rw [List.getElem?_take, if_pos hj2] at hj; exact hj
      have := hcell j (by omega)
      rw [List.getD_eq_getElem?_getD, hj3] at this
      simpa [show (Kd.int .u8).sz = 1 from rfl] using this
end
end Go.Proofs.YtcjfmohmjhjpoaaDoor.P
