/- The law FnExactJoinStrings answers true for every input, and each argument reads behind the call as it read before. -/
import Derived.Test.YtcjfmohmjhjpoaaRows
import Derived.Test.YtcjfmohmjhjpoaaJoinStringsG4
import Derived.WalkKit
import Derived.ProofKit
import Derived.OpenShut
import Derived.ShutString
import Derived.ChangeOld
import Derived.Below
import Derived.SizedLaws
namespace Go.Proofs.Ytcjfmohmjhjpoaa.fnExactJoinStrings
open Go.ChangeShapes Go.WideShapes Go.ChangeAt Go.RowKit
open Go.ChangeMaps (open_string shut_string)
open Go.Proofs.Ytcjfmohmjhjpoaa.P Go.Proofs.YtcjfmohmjhjpoaaW.PrintWords Go.Proofs.YtcjfmohmjhjpoaaW.PrintLast Go.Proofs.YtcjfmohmjhjpoaaW.PrintMore
set_option linter.unusedVariables false
theorem head0 {e : Nat} {w : World} {base : Nat} {ok : Nat → Prop} {A : Option Addr} {n c : Nat} {xs : List ByteArray} (h : Kd.R Kd.string e w base ok (.slice A n c) xs) (hp : xs ≠ []) : ∃ g, A = some ⟨g, 0, none⟩ := by
  obtain ⟨g, cap, e1, _⟩ := Kd.R_form h (List.length_pos_iff.2 hp)
  injection e1 with e1 _ _
  exact ⟨g, e1⟩
set_option maxRecDepth 100000 in
set_option maxHeartbeats 8000000 in
theorem walk (A : Option Addr) (cp : Nat) (l : List ByteArray) (p : ByteArray) (w : World) (hr : Kd.C Kd.string w A l.length l) (hc : l.length ≤ cp) (h63 : l.length ≤ 9223372036854775807) (hw : ∀ s ∈ l, s.size ≤ 9223372036854775807) (hp63 : p.size ≤ 140737488351232) :
    Calls Try.prog 6 #[.slice A l.length cp, .string p] w fun e w' => e = .returned (.bool true) ∧ Below w.heap.size w w' := by
  have HB := zM (Below.refl w.heap.size w)
  have HR := zM hr
  have HC := zM hc
  by_cases hp : p.size ≤ 1048576
  case neg =>
    have c1 : decide ((p.size : Int) > 1048576) = true := decide_eq_true (by omega)
    have c2 : decide ((1048576 : Int) < (p.size : Int)) = true := decide_eq_true (by omega)
    have c3 : decide (1048576 < p.size) = true := decide_eq_true (by omega)
    clear hr hc h63 hw hp63 hp
    go_enter Try.func6, Try.ntmps6
    go_wp2
    go_ret
    exact ⟨by first | rfl | (simp; done), by first | exact HB.out | exact below_drew HB.out⟩
  have c1 : decide ((p.size : Int) > 1048576) = false := decide_eq_false (by omega)
  have c2 : decide ((1048576 : Int) < (p.size : Int)) = false := decide_eq_false (by omega)
  have c3 : decide (1048576 < p.size) = false := decide_eq_false (by omega)
  obtain ⟨t, ht, htc⟩ := szS_ev l h63 hw
  obtain ⟨k0, hk0⟩ := ht.rounds
  have HK0 := zM hk0
  by_cases ht0 : t < 0
  · have d1 : decide (t < 0) = true := decide_eq_true ht0
    clear hr hc h63 hw hp63 hp ht htc hk0 ht0
    go_enter Try.func6, Try.ntmps6
    go_wp2_with (go_at_call 11; refine (laws_szStringS.calls k0 A cp l 1048576 t _ (Kd.C_below HR.out HB.out) HC.out HK0.out).mono ?_; rintro e w' ⟨rfl, hd⟩; have hb := Drawn0.below hd; replace HB := zM (below_step HB.out hb); clear hb hd)
    go_ret
    exact ⟨by first | rfl | (simp; done), by first | exact HB.out | exact below_drew HB.out⟩
  have d1 : decide (t < 0) = false := decide_eq_false ht0
  obtain ⟨_, hl, hs⟩ := htc.resolve_left ht0
  obtain ⟨k1, hk1⟩ := (toS_ev l hl).rounds
  obtain ⟨k2, hk2⟩ := (spec_JoinStrings_ev l p hl hs).rounds
  obtain ⟨k3, hk3⟩ := (eqT_ev l (by omega)).rounds
  obtain ⟨⟨r, b⟩, hf⟩ : ∃ r, joinR l p = r := ⟨_, rfl⟩
  rw [hf] at hk2
  have HK1 := zM hk1
  have HK2 := zM hk2
  have HK3 := zM hk3
  have HF := zM hf
  have HL := zM hl
  have HS := zM hs
  clear hr hc h63 hw hp63 hp ht htc hk0 ht0 hk1 hk2 hk3 hf hl hs
  go_enter Try.func6, Try.ntmps6
  go_wp2_with (first
    | (go_at_call 11; refine (laws_szStringS.calls k0 A cp l 1048576 t _ (Kd.C_below HR.out HB.out) HC.out HK0.out).mono ?_; rintro e w0 ⟨rfl, hd⟩; have hb := Drawn0.below hd; replace HB := zM (below_step HB.out hb); clear hb hd)
    | (go_at_call 13; have HIk := HI; refine (laws_toStringS.calls k1 A cp l l _ (Kd.C_below HR.out HB.out) HC.out HK1.out).mono ?_; rintro e w5 ⟨v3, rfl, ho, hb⟩; have HO3 := zM ho; replace HX := zM (Kd.R_below HX.out hb); replace HB := zM (below_step HB.out hb); clear ho hb HIk; obtain ⟨A3, cc3, e3⟩ := Kd.R_slice HO3.out; subst e3)
    | (go_at_call 13; have HSk := HSp; refine (laws_toStringS.calls k1 A cp l l _ (Kd.C_below HR.out HB.out) HC.out HK1.out).mono ?_; rintro e w3 ⟨v2, rfl, ho, hb⟩; have HX := zM ho; replace HB := zM (below_step HB.out hb); clear ho hb HSk; obtain ⟨Ax, cx, ex⟩ := Kd.R_slice HX.out; subst ex)
    | (go_at_call 13; refine (laws_toStringS.calls k1 A cp l l _ (Kd.C_below HR.out HB.out) HC.out HK1.out).mono ?_; rintro e w1 ⟨v1, rfl, ho, hb⟩; have HO1 := zM ho; replace HB := zM (below_step HB.out hb); clear ho hb; obtain ⟨A1, cc1, e1⟩ := Kd.R_slice HO1.out; subst e1)
    | (go_at_call 12; refine (spec_JoinStrings.calls k2 A1 cc1 l p r b _ (Kd.R_reads' HO1.out).2.2 (Kd.R_reads' HO1.out).2.1 HK2.out).mono ?_; rintro e w2 ⟨rfl, hd⟩; have hb := Drawn0.below hd; replace HB := zM (below_step HB.out hb); have HSp := zM trivial; clear hb hd HO1)
    | (go_at_call 14; refine (impl_JoinStrings_calls Ax cx l p _ (fun h => head0 HX.out h) (Kd.R_reads' HX.out).2.2 (Kd.R_reads' HX.out).2.1 HL.out HS.out).mono ?_; rw [HF.out]; rintro e w4 ⟨rfl, hb⟩; replace HX := zM (Kd.R_below HX.out hb); replace HB := zM (below_step HB.out hb); have HI := zM trivial; clear hb)
    | (go_at_call 15; refine (laws_eqStringS.calls k3 Ax cx l A3 cc3 l true _ (Kd.R_reads' HX.out).2.2 (Kd.R_reads' HX.out).2.1 (Kd.R_reads' HO3.out).2.2 (Kd.R_reads' HO3.out).2.1 HK3.out).mono ?_; rintro e w6 ⟨rfl, hd⟩; have hb := Drawn0.below hd; replace HB := zM (below_step HB.out hb); clear hb hd))
  go_ret
  exact ⟨by first | rfl | (simp; done), by first | exact HB.out | exact below_drew HB.out⟩
theorem own : ownKnob Try.prog.godebug = none := by kernel_rfl
theorem laidOut : laidOutB Try.prog = true := by kernel_rfl
set_option maxRecDepth 100000 in
theorem lifted (os : Os) (started : os.Started) (H : Type) (enc : TypeId × Value → H) :
    ReturnsInHanded {} Try.checked os 6 .any (Rows.fnExactJoinStringsSpec.pre6 enc Try.prog Try.f6 Rows.fnExactJoinStringsRow.domain false) (Rows.fnExactJoinStringsSpec.post enc Try.prog Try.f6 false true false false) := by
  refine returnsInHanded_of_change_sized (C := Try.checked) own started (by kernel_rfl) Try.func6
    (ChangeSpec.witness6 (enc := enc) (C := Try.checked) false ⟨#[], #[.slice none 0 0, .string ByteArray.empty], []⟩ 8 (by kernel_rfl) (by kernel_rfl) (by kernel_rfl) (by kernel_rfl)) ?_
  intro W base args ds gs before hval0 hW hcnd hsz0 _
  have hsz : (DataW.weightsEach Try.prog (Try.f6.params.toList ++ Rows.fnExactJoinStringsSpec.plain.varTypes Try.prog) (ds ++ gs)).all (· ≤ reachBytes) = true := hsz0
  have hval : ∀ (j : Nat) t v, Try.f6.params[j]? = some t → args[j]? = some v → Value.okWide Try.prog W .any base t v := hval0
  have hW' := hW
  obtain ⟨p, q, hA0, hV, rfl, hfz, hnd⟩ := hW
  have hA : DataW.TrodAll enc Try.prog W 0 (fun _ => true) true Try.f6.params.toList args.toList ds p := hA0
  rw [Try.params6] at hA hval hsz
  obtain ⟨v0, vs0, d0, ds0, p0, q0, hargs, rfl, rfl, h0, r0⟩ := trodAll_cons hA
  obtain ⟨v1, vs1, d1, ds1, p1, q1, rfl, rfl, rfl, h1, r1⟩ := trodAll_cons r0
  obtain ⟨rfl, rfl, rfl⟩ := trodAll_nil r1
  obtain rfl : args = #[v0, v1] := by cases args; simp_all
  obtain ⟨rfl, rfl⟩ := trodVars_none hV
  obtain ⟨a1, rfl, rfl, rfl, y1⟩ := open_string Try.underlying9 (hval 1 9 v1 rfl rfl) h1
  have w1 : a1.size ≤ 140737488351232 := by
    have z := sized_string hsz (j := 1) (t := 9) rfl rfl
    rw [Array.length_toList] at z
    exact z
  have k0 := h0
  have lt0 : ∀ x ∈ p0, x.block < W.heap.size := by obtain ⟨m, hm⟩ := k0; exact DataW.trod_lt m _ _ _ hm
  obtain ⟨aa0, len0, cap0, rfl⟩ := okWide_slice Try.underlying27 (hval 0 27 v0 rfl rfl)
  obtain ⟨fuel0, hf0⟩ := h0
  obtain ⟨A0, c0, l0, ev0, hc0, hr0, w0, w0'⟩ := read_strs hf0
  rw [ev0] at k0 hW' ⊢
  clear hA0 hval0 hsz0 hsz
  refine (walk A0 c0 l0 a1 W hr0 hc0 w0 w0' w1).mono fun e W' ⟨he, bel⟩ => ?_
  subst he
  exact ⟨_, rfl, _, _, _, [], _, [], hW', trodAll_mk1 (shut_bool Try.underlying4 _), (trodAll_cons_mk (Below.trod laidOut (by kernel_rfl) (of_decide_eq_true (by kernel_rfl)) k0 bel lt0) (trodAll_cons_mk (shut_string Try.underlying9 y1) trodAll_mk0)), rfl, bel.frame _, fun h => by cases h⟩
theorem over : Rows.fnExactJoinStringsRow.holds Try.pinned (OpenSpec.ofChange Rows.fnExactJoinStringsSpec) :=
  OpenClaim.holds_of_wide 6 Try.f6 rfl rfl rfl rfl rfl rfl rfl ⟨rfl, rfl, rfl, rfl, rfl⟩ rfl rfl rfl rfl rfl (by kernel_rfl) Try.func6 (by kernel_rfl)
    (of_decide_eq_true (by kernel_rfl)) (by unfold Func.isWrapper; first | (rw [if_pos (by decide +kernel)]; kernel_rfl) | (rw [if_neg (by decide +kernel)]; exact ⟨rfl, rfl⟩))
    (fun os started H enc _ => lifted os started H enc)
theorem proved : Rows.FnExactJoinStringsSaid := over
end Go.Proofs.Ytcjfmohmjhjpoaa.fnExactJoinStrings
namespace Go.Proofs.Ytcjfmohmjhjpoaa
/-- The row, under a short name, for the claim. -/
theorem fnExactJoinStrings_holds : Rows.FnExactJoinStringsSaid := fnExactJoinStrings.proved
#print axioms fnExactJoinStrings_holds
end Go.Proofs.Ytcjfmohmjhjpoaa
