/- impl's (Space).within: no step whose two values differ by more than so much; for every world, where the steps' places lie in the list. -/
import Derived.Test.YtpbngmkhpcgpkaaExtF
import Derived.Test.YtpbngmkhpcgpkaaPx31
namespace Go.Proofs.Ytpbngmkhpcgpkaa.P
open Go.RowKit Go.Proofs.YtpbngmkhpcgpkaaW.PrintWords Go.Proofs.YtpbngmkhpcgpkaaW.PrintLast Go.Proofs.YtpbngmkhpcgpkaaW.PrintMore
attribute [local go_sem] max2_int min2_int max_two min_two max_three min_three max_four min_four
set_option linter.unusedVariables false
set_option linter.unusedSimpArgs false

def overB (l1 : List Int) (a2 : Int) (s : S68) : Bool := decide (a2 < (impl_differ.f l1 s.f0 s.f1).getD 0)
def impl_Space_within.f (l0_0 : List (List Int)) (l0_1 : List S68) (l1 : List Int) (a2 : Int) : Option Bool :=
  if l0_1.all (fun s => (impl_differ.f l1 s.f0 s.f1).isSome) then some (!(l0_1.any (overB l1 a2))) else none
set_option maxHeartbeats 1000000 in
set_option maxRecDepth 100000 in
/-- differ only reads. -/
theorem differ_quiet (A0 : Option Addr) (c0 : Nat) (l0 : List Int) (a1 : Int) (a2 : Int) (r : Int) (w : World) (hr0 : Kd.C (Kd.int .i64) w A0 l0.length l0) (h : impl_differ.f l0 a1 a2 = some r) :
    Calls Try.prog 85 #[.slice A0 l0.length c0, .int .i64 a1, .int .i64 a2] w fun e w' => e = .returned (.int .i64 r) ∧ ∃ n, w' = w.drewN n := by
  have HR0 := Aside0.mk hr0
  clear hr0
  unfold impl_differ.f at h
  by_cases c4 : 0 ≤ a1
  · by_cases c5 : a1 < (l0.length : Int)
    · by_cases c6 : 0 ≤ a2
      · by_cases c7 : a2 < (l0.length : Int)
        · rw [if_pos c4, if_pos c5, if_pos c6, if_pos c7] at h
          have H := Aside0.mk (Option.some.inj h)
          clear h
          obtain ⟨ad1, e1, hx1⟩ := Kd.at_int HR0.out a1 c4 c5
          cases e1
          obtain ⟨ad2, e2, hx2⟩ := Kd.at_int HR0.out a2 c6 c7
          obtain rfl : ad1 = ad2 := (by injection e2)
          obtain ⟨j, hj⟩ : ∃ j_ : Int, (mx (wrap64 ((rd l0 a1) - (rd l0 a2))) (wrap64 ((rd l0 a2) - (rd l0 a1)))) = j_ := ⟨_, rfl⟩
          have hj2 : (if (wrap64 ((rd l0 a1) - (rd l0 a2))) < (wrap64 ((rd l0 a2) - (rd l0 a1))) then (wrap64 ((rd l0 a2) - (rd l0 a1))) else (wrap64 ((rd l0 a1) - (rd l0 a2)))) = j := hj
          have HJ := Aside0.mk (show j = r by rw [← hj]; exact H.out)
          clear hj H
          have c4b : decide (0 ≤ a1) = true := decide_eq_true c4
          have c5b : decide (a1 < (l0.length : Int)) = true := decide_eq_true c5
          have c6b : decide (0 ≤ a2) = true := decide_eq_true c6
          have c7b : decide (a2 < (l0.length : Int)) = true := decide_eq_true c7
          replace c4 := eq_true c4
          replace c5 := eq_true c5
          replace c6 := eq_true c6
          replace c7 := eq_true c7
          go_enter Try.func85, Try.ntmps85
          go_wp2
          repeat (go_quiet (fail); try go_wp2)
          go_ret
          have e_ := HJ.out
          subst e_
          exact ⟨by first | rfl | (simp [*]; done), ⟨_, rfl⟩⟩
        · rw [if_pos c4, if_pos c5, if_pos c6, if_neg c7] at h; cases h
      · rw [if_pos c4, if_pos c5, if_neg c6] at h; cases h
    · rw [if_pos c4, if_neg c5] at h; cases h
  · rw [if_neg c4] at h; cases h
set_option maxHeartbeats 1000000 in
theorem within1_any (gl gm : Nat) (A1 : Option Addr) (c1 : Nat) (l1 : List Int) (a2 : Int) (s : S68) (d : Int) (hd : impl_differ.f l1 s.f0 s.f1 = some d) (W : World) (hl : W.cell? ⟨gl, 0, none⟩ = some (.slice A1 l1.length c1)) (hm : W.cell? ⟨gm, 0, none⟩ = some (.int .i64 a2))
    (hr1 : Kd.C (Kd.int .i64) W A1 l1.length l1) :
    Calls Try.prog 111 (#[.agg #[.int .i64 s.f0, .int .i64 s.f1]] ++ #[.pointer (some ⟨gl, 0, none⟩), .pointer (some ⟨gm, 0, none⟩)]) W fun e w' => e = .returned (.bool (decide (a2 < d))) ∧ Below W.heap.size W w' := by
  have HD := Aside0.mk hd
  have HR := Aside0.mk hr1
  clear hd hr1
  show Calls Try.prog 111 #[.agg #[.int .i64 s.f0, .int .i64 s.f1], .pointer (some ⟨gl, 0, none⟩), .pointer (some ⟨gm, 0, none⟩)] W _
  have hl2 := fun o : Obj => pw_cell_below (below_alloc (Below.refl W.heap.size W) o) hl
  have hm2 := fun o : Obj => pw_cell_below (below_alloc (Below.refl W.heap.size W) o) hm
  go_enter Try.func111, Try.ntmps111
  go_wp2_with fail
  go_quiet ((go_at_call 85; exact Calls.quiet_of (differ_quiet A1 c1 l1 _ _ d _ (Kd.C_below HR.out (by repeat (first | exact Below.refl _ _ | apply below_alloc | apply pw_below_drewN | apply below_drew1))) HD.out)))
  go_wp2
  go_ret
  exact ⟨by first | rfl | (simp; done), by repeat (first | exact Below.refl _ _ | apply below_alloc | apply pw_below_drewN | apply below_drew1)⟩
set_option maxHeartbeats 1000000 in
theorem impl_Space_within.calls (A0_0 : Option Addr) (c0_0 : Nat) (l0_0 : List (List Int)) (A0_1 : Option Addr) (c0_1 : Nat) (l0_1 : List (S68)) (A1 : Option Addr) (c1 : Nat) (l1 : List Int) (a2 : Int) (r : Bool) (w : World) (hr0_0 : Kd.C (Kd.slice 3 (Kd.int .i64)) w A0_0 l0_0.length l0_0) (hc0_0 : l0_0.length ≤ c0_0) (hr0_1 : Kd.C k68 w A0_1 l0_1.length l0_1) (hc0_1 : l0_1.length ≤ c0_1) (hr1 : Kd.C (Kd.int .i64) w A1 l1.length l1) (hc1 : l1.length ≤ c1) (h : impl_Space_within.f l0_0 l0_1 l1 a2 = some r) :
    Calls Try.prog 81 #[.agg #[.slice A0_0 l0_0.length c0_0, .slice A0_1 l0_1.length c0_1], .slice A1 l1.length c1, .int .i64 a2] w fun e w' => e = .returned (.bool r) ∧ Below w.heap.size w w' := by
  unfold impl_Space_within.f at h
  by_cases hall : l0_1.all (fun s => (impl_differ.f l1 s.f0 s.f1).isSome) = true
  case neg => rw [if_neg hall] at h; cases h
  rw [if_pos hall] at h
  obtain rfl := Option.some.inj h
  have HP := fun (W : World) (gl gm : Nat) (hl : W.cell? ⟨gl, 0, none⟩ = some (.slice A1 l1.length c1)) (hm : W.cell? ⟨gm, 0, none⟩ = some (.int .i64 a2)) (hr : Kd.C (Kd.int .i64) W A1 l1.length l1) =>
    Aside0.mk (show PredB 111 #[.pointer (some ⟨gl, 0, none⟩), .pointer (some ⟨gm, 0, none⟩)] (fun x : S68 => Value.agg #[.int .i64 x.f0, .int .i64 x.f1]) (overB l1 a2) l0_1 W from fun W' x hx hb => by
      have hs := List.all_eq_true.1 hall x hx
      obtain ⟨d, hd⟩ := Option.isSome_iff_exists.1 hs
      have := within1_any gl gm A1 c1 l1 a2 x d hd W' (pw_cell_below hb hl) (pw_cell_below hb hm) (Kd.C_below hr hb)
      unfold overB
      rw [hd]
      exact this)
  have HR1 := Aside0.mk hr1
  have HR0 := Aside0.mk hr0_1
  clear hr1 hr0_0 hr0_1 hall h
  generalize hg : l0_1.any (overB l1 a2) = b
  have HG := Aside0.mk hg
  clear hg
  have HB1 := Aside0.mk (below_alloc (below_alloc (below_alloc (Below.refl w.heap.size w) (.cells #[.slice A0_0 l0_0.length c0_0, .slice A0_1 l0_1.length c0_1] 50)) (.cells #[.slice A1 l1.length c1] 34)) (.cells #[.int .i64 a2] 3))
  go_enter Try.func81, Try.ntmps81
  go_wp2_with fail
  go_at_call 110
  refine (cont_prs _ _ (enters_of Try.func111 (by kernel_rfl) rfl) _ A0_1 c0_1 l0_1 _ (Kd.C_below HR0.out HB1.out) (HP _ _ _ (by go_simp) (by go_simp) (Kd.C_below HR1.out HB1.out)).out).mono ?_
  rintro e w' ⟨rfl, hb⟩
  rw [HG.out]
  have HB := Aside0.mk (below_step HB1.out hb)
  clear hb
  go_wp2
  go_ret
  exact ⟨by first | rfl | (simp; done), HB.out⟩
end Go.Proofs.Ytpbngmkhpcgpkaa.P
