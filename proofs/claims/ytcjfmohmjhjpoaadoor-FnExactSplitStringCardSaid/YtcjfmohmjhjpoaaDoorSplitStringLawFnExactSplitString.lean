/- FnExactSplitString: for every number the law answers true and nothing that came in turns: the card. -/
import Derived.Test.YtcjfmohmjhjpoaaDoorSplitStringG3
import Derived.Test.YtcjfmohmjhjpoaaDoorSplitStringG4
namespace Go.Proofs.YtcjfmohmjhjpoaaDoor.fnExactSplitString
open Go.ChangeShapes Go.WideShapes Go.ChangeAt Go.RowKit
open Go.ChangeMaps (open_string shut_string)
set_option linter.unusedVariables false
open Go.Proofs.YtcjfmohmjhjpoaaDoor.P Go.Proofs.YtcjfmohmjhjpoaaDoorW.PrintWords Go.Proofs.YtcjfmohmjhjpoaaDoorW.PrintLast Go.Proofs.YtcjfmohmjhjpoaaDoorW.PrintMore
set_option maxRecDepth 100000 in
set_option maxHeartbeats 8000000 in
theorem walk (s p : ByteArray) (w : World) (h63 : s.size ≤ 140737488351232) (h64 : p.size ≤ 140737488351232) (hsh : w.ShapedOpen Tryd.prog) : Calls Tryd.prog 4 #[.string s, .string p] w fun e w' => e = .returned (.bool true) ∧ Below w.heap.size w w' := by
  have HB := zM (Below.refl w.heap.size w)
  obtain ⟨m, hm⟩ := Tryd.laysM145.s1_3 w hsh
  have HCm := zM (fun (w' : World) (hb : Below w.heap.size w w') => pw_cell_below hb hm)
  clear hm hsh
  by_cases hs : s.size ≤ 1048576
  case neg =>
    have c1 : decide ((s.size : Int) > 1048576) = true := decide_eq_true (by omega)
    have c2 : decide ((1048576 : Int) < (s.size : Int)) = true := decide_eq_true (by omega)
    have c3 : decide (1048576 < s.size) = true := decide_eq_true (by omega)
    go_enter Tryd.func4, Tryd.ntmps4
    go_wp2
    go_ret
    exact ⟨by first | rfl | (simp; done), by first | exact HB.out | exact below_drew HB.out⟩
  have c1 : decide ((s.size : Int) > 1048576) = false := decide_eq_false (by omega)
  have c2 : decide ((1048576 : Int) < (s.size : Int)) = false := decide_eq_false (by omega)
  have c3 : decide (1048576 < s.size) = false := decide_eq_false (by omega)
  by_cases hp : p.size ≤ 1048576
  case neg =>
    have d1 : decide ((p.size : Int) > 1048576) = true := decide_eq_true (by omega)
    have d2 : decide ((1048576 : Int) < (p.size : Int)) = true := decide_eq_true (by omega)
    have d3 : decide (1048576 < p.size) = true := decide_eq_true (by omega)
    go_enter Tryd.func4, Tryd.ntmps4
    go_wp2
    go_ret
    exact ⟨by first | rfl | (simp; done), by first | exact HB.out | exact below_drew HB.out⟩
  have d1 : decide ((p.size : Int) > 1048576) = false := decide_eq_false (by omega)
  have d2 : decide ((1048576 : Int) < (p.size : Int)) = false := decide_eq_false (by omega)
  have d3 : decide (1048576 < p.size) = false := decide_eq_false (by omega)
  have hlen := splitR_len s p
  obtain ⟨k1, hk1⟩ := (spec_SplitString_ev s p hs hp).rounds
  obtain ⟨⟨r, b⟩, hf⟩ : ∃ r, splitR s p = r := ⟨_, rfl⟩
  rw [hf] at hk1 hlen
  replace hlen : r.length ≤ 4001 := hlen
  obtain ⟨k2, hk2⟩ := (eqS_ev r (by omega)).rounds
  obtain ⟨k3, hk3⟩ := (markS_ev r (by omega)).rounds
  obtain ⟨k4, hk4⟩ := (heldS_ev r.length (by omega)).rounds
  have HK1 := zM hk1
  have HK2 := zM hk2
  have HK3 := zM hk3
  have HK4 := zM hk4
  have HF := zM hf
  have HS := zM hs
  have HP := zM hp
  have g1 : decide (((r.length + 1 : Nat) : Int) < 0) = false := decide_eq_false (by omega)
  have g2 : ((((r.length + 1 : Nat) : Int)) != ((r.length + 1 : Nat) : Int)) = false := bne_eq_false_iff_eq.mpr rfl
  generalize hMM : marksS r.length = M at HK3 HK4
  generalize hQQ : ((r.length + 1 : Nat) : Int) = Q at HK3 HK4 g1 g2
  have HML := zM (show M.length = r.length by rw [← hMM, marksS_len])
  clear hMM hQQ hk1 hk2 hk3 hk4 hf hs hp hlen h63 h64
  go_enter Tryd.func4, Tryd.ntmps4
  go_wp2_with (first
    | (go_at_call 12; refine (spec_SplitString.calls k1 s p r b _ HK1.out).mono ?_; rintro e w1 ⟨vw, rfl, ho, hb⟩; have HW1 := zM (Kd.R_lower ho (below_size HB.out)); replace HB := zM (below_step HB.out hb); clear ho hb; obtain ⟨Aw, cw, ew⟩ := Kd.R_slice HW1.out; subst ew)
    | (go_at_call 13; have HMk := HM; refine (impl_SplitString_calls s p HS.out HP.out m _ (HCm.out _ HB.out)).mono ?_; rw [HF.out]; rintro e w6 ⟨vh, rfl, ho, hb⟩; have HH := zM (Kd.R_lower ho (below_size HB.out)); replace HW5 := zM (Kd.R_below HW5.out hb); replace HM := zM (Kd.R_below HM.out hb); replace HB := zM (below_step HB.out hb); clear ho hb HMk; obtain ⟨Ah, ch, eh⟩ := Kd.R_slice HH.out; subst eh)
    | (go_at_call 13; refine (impl_SplitString_calls s p HS.out HP.out m _ (HCm.out _ HB.out)).mono ?_; rw [HF.out]; rintro e w2 ⟨vg, rfl, ho, hb⟩; have HG2 := zM (Kd.R_mono (ok' := fun k => w1.heap.size ≤ k) (Kd.R_bound ho) (fun _ h => h.2.1)); have HW2 := zM (Kd.R_mono (ok' := fun k => k < w1.heap.size) (Kd.R_below (Kd.R_bound HW1.out) hb) (fun _ h => h.2.2.1)); have HC2 := zM hb; have HB1 := HB; replace HB := zM (below_step HB.out hb); clear ho hb HW1; obtain ⟨Ag, cg, eg⟩ := Kd.R_slice HG2.out; subst eg)
    | (go_at_call 14; have HHk := HH; refine (laws_eqStringS.calls k2 Ah ch r Aw cw r true _ (Kd.R_reads' HH.out).2.2 (Kd.R_reads' HH.out).2.1 (Kd.R_reads' HW5.out).2.2 (Kd.R_reads' HW5.out).2.1 HK2.out).mono ?_; rintro e w7 ⟨rfl, hd⟩; have hb := Drawn0.below hd; replace HM := zM (Kd.R_below HM.out hb); replace HB := zM (below_step HB.out hb); clear hb hd HHk HH HW5)
    | (go_at_call 14; refine (laws_eqStringS.calls k2 Ag cg r Aw cw r true _ (Kd.R_reads' HG2.out).2.2 (Kd.R_reads' HG2.out).2.1 (Kd.R_reads' HW2.out).2.2 (Kd.R_reads' HW2.out).2.1 HK2.out).mono ?_; rintro e w3 ⟨rfl, hd⟩; have hb := Drawn0.below hd; have HG3 := zM (Kd.R_below HG2.out hb); have HW3 := zM (Kd.R_below HW2.out hb); have HC3 := zM (below_step HC2.out hb); replace HB := zM (below_step HB.out hb); clear hb hd HG2 HW2 HC2)
    | (go_at_call 15; refine (laws_markStringS.calls k3 (fun k => w1.heap.size ≤ k) _ r 1 Q M w1 _ HC3.out HG3.out HK3.out).mono ?_; rintro e w4 ⟨rfl, ho, hb, hk⟩; have HM := zM (Kd.R_mono (ok' := fun _ => True) (Kd.R_lower ho (below_size HB1.out)) (fun _ _ => trivial)); have HW5 := zM (Kd.R_mono (ok' := fun _ => True) (Kd.R_kept HW3.out hk (fun k h1 h2 => absurd h2 (by omega))) (fun _ _ => trivial)); replace HB := zM (below_step HB1.out hb); clear ho hb hk HW3 HG3 HC3 HB1)
    | (go_at_call 16; have HW5k := HW5; refine (held_calls k4 Ag cg M r.length HML.out Q _ (Kd.R_reads' HM.out).2.2 (Kd.R_reads' HM.out).2.1 HK4.out).mono ?_; rintro e w5 ⟨rfl, hb⟩; replace HM := zM (Kd.R_below HM.out hb); replace HW5 := zM (Kd.R_below HW5.out hb); replace HB := zM (below_step HB.out hb); clear hb HW5k)
    | (go_at_call 16; refine (held_calls k4 Ag cg M r.length HML.out Q _ (Kd.R_reads' HM.out).2.2 (Kd.R_reads' HM.out).2.1 HK4.out).mono ?_; rintro e w8 ⟨rfl, hb⟩; replace HB := zM (below_step HB.out hb); clear hb HM))
  go_ret
  exact ⟨by first | rfl | (simp; done), by first | exact HB.out | exact below_drew HB.out⟩
set_option maxRecDepth 1000000 in
theorem contract (H : Type) (enc : TypeId × Value → H) (W : World) (base : Nat) (args : Array Value) (ds gs : List (DataW H)) (before : List MemPlace)
    (hval : ∀ (j : Nat) t v, Tryd.f4.params[j]? = some t → args[j]? = some v → Value.okWide Tryd.prog W .any base t v)
    (hW : DataW.Whole enc Tryd.prog Tryd.f4.params.toList Rows.fnExactSplitStringSpec.vars false W args.toList ds gs before) (hsz0 : (DataW.weightsEach Tryd.prog (Tryd.f4.params.toList ++ (OpenSpec.ofChange Rows.fnExactSplitStringSpec).bare.plain.varTypes Tryd.prog) (ds ++ gs)).all (· ≤ reachBytes) = true) (hsh : W.ShapedOpen Tryd.prog) :
    Calls Tryd.prog 4 args W fun e W' => ∃ v, e = .returned v ∧ Rows.fnExactSplitStringSpec.post enc Tryd.prog Tryd.f4 false true false false W args v W' := by
  have hsz : (DataW.weightsEach Tryd.prog (Tryd.f4.params.toList ++ Rows.fnExactSplitStringSpec.plain.varTypes Tryd.prog) (ds ++ gs)).all (· ≤ reachBytes) = true := hsz0
  have hW' := hW
  obtain ⟨p, q, hA0, hV, rfl, hfz, hnd⟩ := hW
  have hA : DataW.TrodAll enc Tryd.prog W 0 (fun _ => true) true Tryd.f4.params.toList args.toList ds p := hA0
  rw [Tryd.params4] at hA hval hsz
  obtain ⟨v0, vs0, d0, ds0, p0, q0, hargs, rfl, rfl, h0, r0⟩ := trodAll_cons hA
  obtain ⟨v1, vs1, d1, ds1, p1, q1, rfl, rfl, rfl, h1, r1⟩ := trodAll_cons r0
  obtain ⟨rfl, rfl, rfl⟩ := trodAll_nil r1
  obtain rfl : args = #[v0, v1] := by cases args; simp_all
  obtain ⟨rfl, rfl⟩ := trodVars_none hV
  obtain ⟨a0, rfl, rfl, rfl, y0⟩ := open_string Tryd.underlying9 (hval 0 9 v0 rfl rfl) h0
  obtain ⟨a1, rfl, rfl, rfl, y1⟩ := open_string Tryd.underlying9 (hval 1 9 v1 rfl rfl) h1
  have w0 : a0.size ≤ 140737488351232 := by
    have z := sized_string hsz (j := 0) (t := 9) rfl rfl
    rw [Array.length_toList] at z
    exact z
  have w1 : a1.size ≤ 140737488351232 := by
    have z := sized_string hsz (j := 1) (t := 9) rfl rfl
    rw [Array.length_toList] at z
    exact z
  clear hA0 hsz0 hsz
  refine (walk a0 a1 W w0 w1 hsh).mono fun e W' ⟨he, bel⟩ => ?_
  subst he
  exact ⟨_, rfl, _, _, _, [], _, [], hW', trodAll_mk1 (shut_bool Tryd.underlying4 _), (trodAll_cons_mk (shut_string Tryd.underlying9 y0) (trodAll_cons_mk (shut_string Tryd.underlying9 y1) trodAll_mk0)), rfl, bel.frame _, fun h => by cases h⟩
theorem laid_met (os : Os) : laidMet Tryd.prog Rows.fnExactSplitStringRow.laid ((utfWorld os).forCall (fun _ _ => 0) ⟨#[], #[.string ByteArray.empty, .string ByteArray.empty], []⟩).memory :=
  laidMet_of_run' 80 (by kernel_rfl) (by kernel_rfl)
theorem reads (os : Os) {H : Type} (enc : TypeId × Value → H) : ∃ places, DataW.whole enc Tryd.prog ((utfWorld os).forCall (fun _ _ => 0) ⟨#[], #[.string ByteArray.empty, .string ByteArray.empty], []⟩).memory Tryd.f4.params.toList Rows.fnExactSplitStringSpec.vars false #[Value.string ByteArray.empty, Value.string ByteArray.empty].toList 8 = some ([.lit (.string []), .lit (.string [])], [], places) :=
  ⟨[], by kernel_rfl⟩
set_option maxRecDepth 100000 in
theorem lifted (os : Os) (started : os.Started) (H : Type) (enc : TypeId × Value → H) (F : Stop.Interp) :
    ReturnsInHanded {} Tryd.checked os 4 .any ((OpenSpec.ofChange Rows.fnExactSplitStringSpec).preRow enc Tryd.prog Tryd.f4 Rows.fnExactSplitStringRow.domain false Rows.fnExactSplitStringRow.laid) (((OpenSpec.ofChange Rows.fnExactSplitStringSpec).at F).post enc Tryd.prog Tryd.f4 false true false false) := by
  obtain ⟨places, hx⟩ := reads os enc
  refine returnsInHanded_of_row (C := Tryd.checked) (s := OpenSpec.ofChange Rows.fnExactSplitStringSpec) own started (by kernel_rfl) Tryd.func4
    (witness_row_at (enc := enc) (C := Tryd.checked) false (utfWorld os) #[.string ByteArray.empty, .string ByteArray.empty] rfl (by kernel_rfl) (by kernel_rfl) (by kernel_rfl)
      (OpenSpec.preRow_of_cond 8 hx (by kernel_rfl) (fun k hk => by cases hk) (by kernel_rfl) (laid_met os))) ?_
  intro W base args ds gs before hval hW _ _ hsz _ hsh _
  exact contract H enc W base args ds gs before hval hW hsz hsh
theorem said : Rows.FnExactSplitStringSaid :=
  OpenClaim.holds_of_cond 4 Tryd.f4 rfl rfl rfl rfl rfl rfl rfl ⟨rfl, rfl, rfl, rfl, rfl⟩ rfl rfl rfl rfl rfl (by kernel_rfl) Tryd.func4 (by kernel_rfl)
    (of_decide_eq_true (by kernel_rfl)) (by unfold Func.isWrapper; first | (rw [if_pos (by decide +kernel)]; kernel_rfl) | (rw [if_neg (by decide +kernel)]; exact ⟨rfl, rfl⟩))
    (fun os started H enc _ F => by rw [OpenClaim.pre_eq_preRow]; exact lifted os started H enc F)
theorem plain (f : FuncId) (fn : Func) (hf : Tryd.pinned.checked.prog.funcNamed "loop.example/g01128/laws.FnExactSplitString" = some f) (hfn : Tryd.pinned.checked.prog.funcs[f]? = some fn) :
    true = Tryd.pinned.checked.prog.looks [] ∧ ∀ (j : Nat) t, fn.params[j]? = some t → Tryd.pinned.checked.prog.wantsStandIn t = false := by
  obtain rfl : f = 4 := Option.some.inj ((show Tryd.prog.funcNamed "loop.example/g01128/laws.FnExactSplitString" = some 4 by kernel_rfl).symm.trans hf) |>.symm
  obtain rfl : fn = Tryd.f4 := (Option.some.inj (Tryd.func4.symm.trans hfn)).symm
  refine ⟨by kernel_rfl, fun j t ht => ?_⟩
  rw [Tryd.params4] at ht
  obtain rfl : t = 9 := by simpa using Array.mem_of_getElem? ht
  exact (show Tryd.prog.wantsStandIn 9 = false by kernel_rfl)
theorem card : Rows.FnExactSplitStringCardSaid :=
  Claim7.holds_tied_plain_at .later [] _ _ _ _ said (fun _ h => by cases h) (by kernel_rfl) (fun _ h => by cases h) fnExactSplitString_row_tie rfl ⟨rfl, rfl⟩ (by kernel_rfl) rfl plain (by kernel_rfl)
end Go.Proofs.YtcjfmohmjhjpoaaDoor.fnExactSplitString
namespace Go.Proofs.YtcjfmohmjhjpoaaDoor
/-- The card, under a short name, for the claim. -/
theorem fnExactSplitString_holds : Rows.FnExactSplitStringCardSaid := fnExactSplitString.card
#print axioms fnExactSplitString_holds
end Go.Proofs.YtcjfmohmjhjpoaaDoor
