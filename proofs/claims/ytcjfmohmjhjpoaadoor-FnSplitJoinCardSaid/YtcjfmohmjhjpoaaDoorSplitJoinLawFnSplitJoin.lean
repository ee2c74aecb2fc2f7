/- FnSplitJoin: for every number the law answers true and nothing that came in turns: the card. -/
import Derived.Test.YtcjfmohmjhjpoaaDoorSplitJoinG3
import Derived.Test.YtcjfmohmjhjpoaaDoorSplitJoinG5
import Derived.Lib.SmallJoins
import Derived.Deep.Matrix
import Derived.Test.YtcjfmohmjhjpoaaDoorSplitJoinG4
namespace Go.Proofs.YtcjfmohmjhjpoaaDoor.fnSplitJoin
open Go.ChangeShapes Go.WideShapes Go.ChangeAt Go.RowKit
open Go.ChangeMaps (open_string shut_string)
open Go.Joins
set_option linter.unusedVariables false
open Go.Proofs.YtcjfmohmjhjpoaaDoor.P Go.Proofs.YtcjfmohmjhjpoaaDoorW.PrintWords Go.Proofs.YtcjfmohmjhjpoaaDoorW.PrintLast Go.Proofs.YtcjfmohmjhjpoaaDoorW.PrintMore
theorem less_calls (a b : ByteArray) (x : Bool) (hx : Op.bytesLess a.toList b.toList = x) : impl_LessString.f a b = some x ∧ spec_LessString.f a b = some x := by subst hx; exact ⟨rfl, rfl⟩
set_option maxRecDepth 100000 in
set_option maxHeartbeats 16000000 in
theorem walk (A : Option Addr) (cp : Nat) (l : List Int) (w : World) (hr : Kd.C (Kd.int .u8) w A l.length l) (hc : l.length ≤ cp) (hl : isCode l) (hsh : w.ShapedOpen Tryd.prog) : Calls Tryd.prog 7 #[.slice A l.length cp] w fun e w' => e = .returned (.bool true) ∧ Below w.heap.size w w' := by
  have HB := zM (Below.refl w.heap.size w)
  obtain ⟨m, hm⟩ := Tryd.laysM145.s1_3 w hsh
  have HCm := zM (fun (w' : World) (hb : Below w.heap.size w w') => pw_cell_below hb hm)
  clear hm hsh
  have HR := zM hr
  have HC := zM hc
  by_cases hbig : (l.length : Int) > 65536
  case pos =>
    have HV := zM (show laws_vBig.f l = some true by unfold laws_vBig.f; rw [decide_eq_true hbig])
    clear hbig hr hc hl HCm
    go_enter Tryd.func7, Tryd.ntmps7
    go_wp2_with (go_at_call 21; refine (laws_vBig.calls A cp l true _ HR.out HC.out HV.out).mono ?_; rintro e w1 ⟨rfl, hd⟩; have hb := Drawn0.below hd; replace HB := zM (below_step HB.out hb); clear hb hd)
    go_ret
    exact ⟨by first | rfl | (simp; done), HB.out⟩
  have HV := zM (show laws_vBig.f l = some false by unfold laws_vBig.f; rw [decide_eq_false hbig])
  obtain ⟨s, p, hs, hp, hd1⟩ := spec_DrawSplitString_calls l hl
  obtain ⟨a, b, ha, hb0, hd3⟩ := spec_DrawLessString_calls l hl
  have HL := zM hl
  have HD1 := zM hd1
  have HD3 := zM hd3
  have h3 := less_asym a.toList b.toList
  obtain ⟨x, hx⟩ : ∃ x, Op.bytesLess a.toList b.toList = x := ⟨_, rfl⟩
  obtain ⟨y, hy⟩ : ∃ y, Op.bytesLess b.toList a.toList = y := ⟨_, rfl⟩
  rw [hx, hy] at h3
  have HX := zM (less_calls a b x hx)
  have HY := zM (less_calls b a y hy)
  have HS := zM (show s.size ≤ 1048576 by omega)
  have HP := zM (show p.size ≤ 1048576 by omega)
  clear hbig hr hc hl hd1 hd3 ha hb0 hx hy
  by_cases h1 : p.size = 1
  case neg =>
    have n0 : ((p.size : Int) == 1) = false := beq_eq_false_iff_ne.mpr (by omega)
    have n1 : (p.size == 1) = false := beq_eq_false_iff_ne.mpr (by omega)
    have n2 : ((p.size : Int) != 1) = true := bne_iff_ne.mpr (by omega)
    have HF := zM (show splitR s p = ([], false) from if_neg (fun h => h1 h.1))
    clear hs hp
    cases x <;> cases y <;> first | exact absurd h3 (by decide) | skip
    all_goals clear h3
    all_goals go_enter Tryd.func7, Tryd.ntmps7
    all_goals go_wp2_with (first
        | (go_at_call 21; refine (laws_vBig.calls A cp l false _ HR.out HC.out HV.out).mono ?_; rintro e w1 ⟨rfl, hd⟩; have hb := Drawn0.below hd; replace HB := zM (below_step HB.out hb); clear hb hd)
        | (go_at_call 22; refine (HD1.out A cp _ (Kd.C_below HR.out HB.out) HC.out).mono ?_; rintro e w1 ⟨rfl, hb⟩; replace HB := zM (below_step HB.out hb); clear hb)
        | (go_at_call 13; refine (impl_SplitString_calls s p HS.out HP.out m _ (HCm.out _ HB.out)).mono ?_; rw [HF.out]; rintro e w2 ⟨v0, rfl, ho, hb⟩; have HL1 := zM (Kd.R_lower ho (below_size HB.out)); replace HB := zM (below_step HB.out hb); clear hb ho; obtain ⟨Ag, cg, eg⟩ := Kd.R_slice HL1.out; subst eg)
        | (go_at_call 23; refine (spec_DrawJoinStrings_calls A cp l _ (Kd.C_below HR.out HB.out) HC.out HL.out).mono ?_; rintro e w3 ⟨⟨A5, c5, ts, mk, rfl, z1, z2, z3, ho⟩, hb⟩; have HT := zM (And.intro z1 (Nat.le_trans (sizes_bound 4100 ts z2) (Nat.mul_le_mul_left 4100 z1))); have HO := zM (Kd.R_lower ho (below_size HB.out)); replace HL1 := zM (Kd.R_below HL1.out hb); replace HB := zM (below_step HB.out hb); clear hb ho z1 z2 z3; obtain ⟨⟨jr, jb⟩, hj⟩ : ∃ r, joinR ts mk = r := ⟨_, rfl⟩; have HJ2 := zM hj; clear hj)
        | (go_at_call 24; have HO2 := HO; with_reducible refine (impl_JoinStrings_calls A5 c5 ts mk _ (fun hn => by obtain ⟨g, cap, e, _⟩ := Kd.R_form HO.out (List.length_pos_iff.2 hn); injection e with e1; exact ⟨g, e1⟩) (Kd.R_reads' HO.out).2.2 (Kd.R_reads' HO.out).2.1 (by have := HT.out.1; omega) (by have := HT.out.2; omega)).mono ?_; rw [HJ2.out]; rintro e w4 ⟨rfl, hb⟩; replace HL1 := zM (Kd.R_below HL1.out hb); replace HO := zM (Kd.R_below HO.out hb); replace HB := zM (below_step HB.out hb); clear hb HO2)
        | (go_at_call 25; obtain ⟨kj, hkj⟩ := (spec_JoinStrings_ev ts mk (by have := HT.out.1; omega) (by have := HT.out.2; omega)).rounds; rw [HJ2.out] at hkj; refine (spec_JoinStrings.calls kj A5 c5 ts mk jr jb _ (Kd.R_reads' HO.out).2.2 (Kd.R_reads' HO.out).2.1 hkj).mono ?_; rintro e w5 ⟨rfl, hd⟩; have hb := Drawn0.below hd; replace HL1 := zM (Kd.R_below HL1.out hb); replace HB := zM (below_step HB.out hb); clear hb hd hkj)
        | (go_at_call 26; refine (HD3.out A cp _ (Kd.C_below HR.out HB.out) HC.out).mono ?_; rintro e w1 ⟨rfl, hb⟩; replace HL1 := zM (Kd.R_below HL1.out hb); replace HB := zM (below_step HB.out hb); clear hb)
        | (go_at_call 27; refine (impl_LessString.calls a b _ _ HX.out.1).mono ?_; rintro e w1 ⟨rfl, hd⟩; have hb := Drawn0.below hd; replace HL1 := zM (Kd.R_below HL1.out hb); replace HB := zM (below_step HB.out hb); clear hb hd)
        | (go_at_call 27; refine (impl_LessString.calls b a _ _ HY.out.1).mono ?_; rintro e w1 ⟨rfl, hd⟩; have hb := Drawn0.below hd; replace HL1 := zM (Kd.R_below HL1.out hb); replace HB := zM (below_step HB.out hb); clear hb hd)
        | (go_at_call 28; refine (spec_LessString.calls a b _ _ HX.out.2).mono ?_; rintro e w1 ⟨rfl, hd⟩; have hb := Drawn0.below hd; replace HL1 := zM (Kd.R_below HL1.out hb); replace HB := zM (below_step HB.out hb); clear hb hd))
    all_goals go_ret
    all_goals exact ⟨by first | rfl | (simp; done), HB.out⟩
  obtain ⟨c, rfl⟩ := Lib.one_byte p h1
  have hs4 : s.size ≤ 4000 := by omega
  have HJ := zM (split_back s c hs4)
  have HZ := zM (split_sizes s c hs4)
  have HLn := zM (splitR_len s ⟨#[c]⟩)
  have HS4 := zM hs4
  obtain ⟨r, hf⟩ : ∃ r, splitR s ⟨#[c]⟩ = (r, true) := ⟨_, if_pos ⟨rfl, hs4⟩⟩
  rw [hf] at HJ HZ HLn
  have HF := zM hf
  clear hs hp hs4 hf h1
  cases x <;> cases y <;> first | exact absurd h3 (by decide) | skip
  all_goals clear h3
  all_goals go_enter Tryd.func7, Tryd.ntmps7
  all_goals go_wp2_with (first
        | (go_at_call 21; refine (laws_vBig.calls A cp l false _ HR.out HC.out HV.out).mono ?_; rintro e w1 ⟨rfl, hd⟩; have hb := Drawn0.below hd; replace HB := zM (below_step HB.out hb); clear hb hd)
        | (go_at_call 22; refine (HD1.out A cp _ (Kd.C_below HR.out HB.out) HC.out).mono ?_; rintro e w1 ⟨rfl, hb⟩; replace HB := zM (below_step HB.out hb); clear hb)
        | (go_at_call 13; refine (impl_SplitString_calls s ⟨#[c]⟩ HS.out HP.out m _ (HCm.out _ HB.out)).mono ?_; rw [HF.out]; rintro e w2 ⟨v0, rfl, ho, hb⟩; have HL1 := zM (Kd.R_lower ho (below_size HB.out)); replace HB := zM (below_step HB.out hb); clear hb ho; obtain ⟨Ag, cg, eg⟩ := Kd.R_slice HL1.out; subst eg)
        | (go_at_call 23; refine (spec_DrawJoinStrings_calls A cp l _ (Kd.C_below HR.out HB.out) HC.out HL.out).mono ?_; rintro e w3 ⟨⟨A5, c5, ts, mk, rfl, z1, z2, z3, ho⟩, hb⟩; have HT := zM (And.intro z1 (Nat.le_trans (sizes_bound 4100 ts z2) (Nat.mul_le_mul_left 4100 z1))); have HO := zM (Kd.R_lower ho (below_size HB.out)); replace HL1 := zM (Kd.R_below HL1.out hb); replace HB := zM (below_step HB.out hb); clear hb ho z1 z2 z3; obtain ⟨⟨jr, jb⟩, hj⟩ : ∃ r, joinR ts mk = r := ⟨_, rfl⟩; have HJ2 := zM hj; clear hj)
        | (go_at_call 24; have HO2 := HO; with_reducible refine (impl_JoinStrings_calls A5 c5 ts mk _ (fun hn => by obtain ⟨g, cap, e, _⟩ := Kd.R_form HO.out (List.length_pos_iff.2 hn); injection e with e1; exact ⟨g, e1⟩) (Kd.R_reads' HO.out).2.2 (Kd.R_reads' HO.out).2.1 (by have := HT.out.1; omega) (by have := HT.out.2; omega)).mono ?_; rw [HJ2.out]; rintro e w4 ⟨rfl, hb⟩; replace HL1 := zM (Kd.R_below HL1.out hb); replace HO := zM (Kd.R_below HO.out hb); replace HB := zM (below_step HB.out hb); clear hb HO2)
        | (go_at_call 24; with_reducible refine (impl_JoinStrings_calls Ag cg r ⟨#[c]⟩ _ (fun hn => by obtain ⟨g, cap, e, _⟩ := Kd.R_form HL1.out (List.length_pos_iff.2 hn); injection e with e1; exact ⟨g, e1⟩) (Kd.R_reads' HL1.out).2.2 (Kd.R_reads' HL1.out).2.1 (by have := HLn.out; omega) (by have := HZ.out; have := HS4.out; omega)).mono ?_; rw [HJ.out]; rintro e w4 ⟨rfl, hb⟩; replace HB := zM (below_step HB.out hb); clear hb)
        | (go_at_call 25; obtain ⟨kj, hkj⟩ := (spec_JoinStrings_ev ts mk (by have := HT.out.1; omega) (by have := HT.out.2; omega)).rounds; rw [HJ2.out] at hkj; refine (spec_JoinStrings.calls kj A5 c5 ts mk jr jb _ (Kd.R_reads' HO.out).2.2 (Kd.R_reads' HO.out).2.1 hkj).mono ?_; rintro e w5 ⟨rfl, hd⟩; have hb := Drawn0.below hd; replace HL1 := zM (Kd.R_below HL1.out hb); replace HB := zM (below_step HB.out hb); clear hb hd hkj)
        | (go_at_call 26; refine (HD3.out A cp _ (Kd.C_below HR.out HB.out) HC.out).mono ?_; rintro e w1 ⟨rfl, hb⟩; replace HL1 := zM (Kd.R_below HL1.out hb); replace HB := zM (below_step HB.out hb); clear hb)
        | (go_at_call 27; refine (impl_LessString.calls a b _ _ HX.out.1).mono ?_; rintro e w1 ⟨rfl, hd⟩; have hb := Drawn0.below hd; replace HL1 := zM (Kd.R_below HL1.out hb); replace HB := zM (below_step HB.out hb); clear hb hd)
        | (go_at_call 27; refine (impl_LessString.calls b a _ _ HY.out.1).mono ?_; rintro e w1 ⟨rfl, hd⟩; have hb := Drawn0.below hd; replace HL1 := zM (Kd.R_below HL1.out hb); replace HB := zM (below_step HB.out hb); clear hb hd)
        | (go_at_call 28; refine (spec_LessString.calls a b _ _ HX.out.2).mono ?_; rintro e w1 ⟨rfl, hd⟩; have hb := Drawn0.below hd; replace HL1 := zM (Kd.R_below HL1.out hb); replace HB := zM (below_step HB.out hb); clear hb hd))
  all_goals go_ret
  all_goals exact ⟨by first | rfl | (simp; done), HB.out⟩
theorem laidOut : laidOutB Tryd.prog = true := by kernel_rfl
set_option maxRecDepth 1000000 in
theorem contract (H : Type) (enc : TypeId × Value → H) (W : World) (base : Nat) (args : Array Value) (ds gs : List (DataW H)) (before : List MemPlace)
    (hval : ∀ (j : Nat) t v, Tryd.f7.params[j]? = some t → args[j]? = some v → Value.okWide Tryd.prog W .any base t v)
    (hW : DataW.Whole enc Tryd.prog Tryd.f7.params.toList Rows.fnSplitJoinSpec.vars false W args.toList ds gs before) (hsz0 : (DataW.weightsEach Tryd.prog (Tryd.f7.params.toList ++ (OpenSpec.ofChange Rows.fnSplitJoinSpec).bare.plain.varTypes Tryd.prog) (ds ++ gs)).all (· ≤ reachBytes) = true) (hsh : W.ShapedOpen Tryd.prog) :
    Calls Tryd.prog 7 args W fun e W' => ∃ v, e = .returned v ∧ Rows.fnSplitJoinSpec.post enc Tryd.prog Tryd.f7 false true false false W args v W' := by
  have hsz : (DataW.weightsEach Tryd.prog (Tryd.f7.params.toList ++ Rows.fnSplitJoinSpec.plain.varTypes Tryd.prog) (ds ++ gs)).all (· ≤ reachBytes) = true := hsz0
  have hW' := hW
  obtain ⟨p, q, hA0, hV, rfl, hfz, hnd⟩ := hW
  have hA : DataW.TrodAll enc Tryd.prog W 0 (fun _ => true) true Tryd.f7.params.toList args.toList ds p := hA0
  rw [Tryd.params7] at hA hval hsz
  obtain ⟨v0, vs0, d0, ds0, p0, q0, hargs, rfl, rfl, h0, r0⟩ := trodAll_cons hA
  obtain ⟨rfl, rfl, rfl⟩ := trodAll_nil r0
  obtain rfl : args = #[v0] := by cases args; simp_all
  obtain ⟨rfl, rfl⟩ := trodVars_none hV
  have k0 := h0
  have lt0 : ∀ x ∈ p0, x.block < W.heap.size := by obtain ⟨m, hm⟩ := k0; exact DataW.trod_lt m _ _ _ hm
  obtain ⟨aa0, len0, cap0, rfl⟩ := okWide_slice Tryd.underlying33 (hval 0 33 v0 rfl rfl)
  obtain ⟨fuel0, hf0⟩ := h0
  obtain ⟨A0, c0, l0, ev0, hc0, hr0, hn0, hl0⟩ := read_bytes hf0
  rw [ev0] at k0 hW' ⊢
  clear hA0 hsz0 hsz
  refine (walk A0 c0 l0 W hr0 hc0 hl0 hsh).mono fun e W' ⟨he, bel⟩ => ?_
  subst he
  exact ⟨_, rfl, _, _, _, [], _, [], hW', trodAll_mk1 (shut_bool Tryd.underlying4 _), (trodAll_cons_mk (Below.trod laidOut (by kernel_rfl) (of_decide_eq_true (by kernel_rfl)) k0 bel lt0) trodAll_mk0), rfl, bel.frame _, fun h => by cases h⟩
theorem laid_met (os : Os) : laidMet Tryd.prog Rows.fnSplitJoinRow.laid ((utfWorld os).forCall (fun _ _ => 0) ⟨#[], #[.slice none 0 0], []⟩).memory :=
  laidMet_of_run' 80 (by kernel_rfl) (by kernel_rfl)
theorem reads (os : Os) {H : Type} (enc : TypeId × Value → H) : ∃ places, DataW.whole enc Tryd.prog ((utfWorld os).forCall (fun _ _ => 0) ⟨#[], #[.slice none 0 0], []⟩).memory Tryd.f7.params.toList Rows.fnSplitJoinSpec.vars false #[Value.slice none 0 0].toList 8 = some ([.nil], [], places) :=
  ⟨[], by kernel_rfl⟩
set_option maxRecDepth 100000 in
theorem lifted (os : Os) (started : os.Started) (H : Type) (enc : TypeId × Value → H) (F : Stop.Interp) :
    ReturnsInHanded {} Tryd.checked os 7 .any ((OpenSpec.ofChange Rows.fnSplitJoinSpec).preRow enc Tryd.prog Tryd.f7 Rows.fnSplitJoinRow.domain false Rows.fnSplitJoinRow.laid) (((OpenSpec.ofChange Rows.fnSplitJoinSpec).at F).post enc Tryd.prog Tryd.f7 false true false false) := by
  obtain ⟨places, hx⟩ := reads os enc
  refine returnsInHanded_of_row (C := Tryd.checked) (s := OpenSpec.ofChange Rows.fnSplitJoinSpec) own started (by kernel_rfl) Tryd.func7
    (witness_row_at (enc := enc) (C := Tryd.checked) false (utfWorld os) #[.slice none 0 0] rfl (by kernel_rfl) (by kernel_rfl) (by kernel_rfl)
      (OpenSpec.preRow_of_cond 8 hx (by kernel_rfl) (fun k hk => by cases hk) (by kernel_rfl) (laid_met os))) ?_
  intro W base args ds gs before hval hW _ _ hsz _ hsh _
  exact contract H enc W base args ds gs before hval hW hsz hsh
theorem said : Rows.FnSplitJoinSaid :=
  OpenClaim.holds_of_cond 7 Tryd.f7 rfl rfl rfl rfl rfl rfl rfl ⟨rfl, rfl, rfl, rfl, rfl⟩ rfl rfl rfl rfl rfl (by kernel_rfl) Tryd.func7 (by kernel_rfl)
    (of_decide_eq_true (by kernel_rfl)) (by unfold Func.isWrapper; first | (rw [if_pos (by decide +kernel)]; kernel_rfl) | (rw [if_neg (by decide +kernel)]; exact ⟨rfl, rfl⟩))
    (fun os started H enc _ F => by rw [OpenClaim.pre_eq_preRow]; exact lifted os started H enc F)
theorem plain (f : FuncId) (fn : Func) (hf : Tryd.pinned.checked.prog.funcNamed "loop.example/g01128/laws.FnSplitJoin" = some f) (hfn : Tryd.pinned.checked.prog.funcs[f]? = some fn) :
    true = Tryd.pinned.checked.prog.looks [] ∧ ∀ (j : Nat) t, fn.params[j]? = some t → Tryd.pinned.checked.prog.wantsStandIn t = false := by
  obtain rfl : f = 7 := Option.some.inj ((show Tryd.prog.funcNamed "loop.example/g01128/laws.FnSplitJoin" = some 7 by kernel_rfl).symm.trans hf) |>.symm
  obtain rfl : fn = Tryd.f7 := (Option.some.inj (Tryd.func7.symm.trans hfn)).symm
  refine ⟨by kernel_rfl, fun j t ht => ?_⟩
  rw [Tryd.params7] at ht
  obtain rfl : t = 33 := by simpa using Array.mem_of_getElem? ht
  exact (show Tryd.prog.wantsStandIn 33 = false by kernel_rfl)
theorem card : Rows.FnSplitJoinCardSaid :=
  Claim7.holds_tied_plain_at .later [] _ _ _ _ said (fun _ h => by cases h) (by kernel_rfl) (fun _ h => by cases h) fnSplitJoin_row_tie rfl ⟨rfl, rfl⟩ (by kernel_rfl) rfl plain (by kernel_rfl)
end Go.Proofs.YtcjfmohmjhjpoaaDoor.fnSplitJoin
namespace Go.Proofs.YtcjfmohmjhjpoaaDoor
/-- The card, under a short name, for the claim. -/
theorem fnSplitJoin_holds : Rows.FnSplitJoinCardSaid := fnSplitJoin.card
#print axioms fnSplitJoin_holds
end Go.Proofs.YtcjfmohmjhjpoaaDoor
