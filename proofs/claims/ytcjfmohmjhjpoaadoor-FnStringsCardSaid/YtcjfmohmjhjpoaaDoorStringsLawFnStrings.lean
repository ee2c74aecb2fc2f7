/- FnStrings: for every code the law answers true and nothing that came in turns: the card. -/
import Derived.Test.YtcjfmohmjhjpoaaDoorStringsG5
import Derived.Lib.SmallJoins
import Derived.Deep.Matrix
import Derived.Test.YtcjfmohmjhjpoaaDoorStringsG6
namespace Go.Proofs.YtcjfmohmjhjpoaaDoor.fnStrings
open Go.ChangeShapes Go.WideShapes Go.ChangeAt Go.RowKit
open Go.ChangeMaps (open_string shut_string)
open Go.Joins
set_option linter.unusedVariables false
open Go.Proofs.YtcjfmohmjhjpoaaDoor.P Go.Proofs.YtcjfmohmjhjpoaaDoorW.PrintWords Go.Proofs.YtcjfmohmjhjpoaaDoorW.PrintLast Go.Proofs.YtcjfmohmjhjpoaaDoorW.PrintMore
theorem vAt_some (l : List Int) (hl : isCode l) (hn : l.length ≤ 65536) (i : Int) (h0 : 0 ≤ i) (h1 : i ≤ 10) : ∃ v, laws_vAt.f l i = some v ∧ 0 ≤ v ∧ v ≤ 255 := by
  unfold laws_vAt.f
  by_cases c : i < (l.length : Int)
  · rw [if_pos c, if_pos h0]
    have := rd_code hl i h0 c
    exact ⟨_, rfl, by rw [wrap_nat (by omega) (by omega)]; exact this⟩
  · rw [if_neg c]
    refine ⟨_, rfl, ?_⟩
    rw [wrap_nat (m := i * 7) (by omega) (by omega), wrap_nat (by omega) (by omega)]
    have := tmod_in (x := i * 7 + (l.length : Int)) (n := 256) (by omega) (by omega)
    omega
theorem back_told (n : Int) (s : ByteArray) (ok : Bool) (r : Int × Bool) (hf : fmtR n = (s, ok)) (h : ∀ n : Int, -999999 ≤ n ∧ n ≤ 999999 → s = str (Lib.itoa n) → r = (n, true)) : ok = true → r = (n, true) := by
  intro e
  subst e
  unfold fmtR at hf
  by_cases c : -999999 ≤ n ∧ n ≤ 999999
  · rw [if_pos c] at hf
    exact h n c (congrArg Prod.fst hf).symm
  · rw [if_neg c] at hf
    exact absurd (congrArg Prod.snd hf) (by simp)
theorem fmt_size (n : Int) (h0 : -1000000 ≤ n ∧ n ≤ 1000000) : (fmtR n).1.size ≤ 1048576 := by
  unfold fmtR
  split
  · have := Lib.itoa_length_le n (by omega) (by omega)
    show (str (Lib.itoa n)).size ≤ 1048576
    rw [str_size]; omega
  · exact Nat.zero_le _
theorem app_told (x y : ByteArray) (h : appR x = (y, true)) : x.size ≤ 4000 ∧ ¬ (35 : UInt8) ∈ x.data.toList ∧ (sealB x).size ≤ 4000 ∧ y = sealB x := by
  unfold appR at h
  split at h
  next c => exact ⟨c.1, c.2.1, c.2.2, (congrArg Prod.fst h).symm⟩
  next => exact absurd (congrArg Prod.snd h) (by simp)
theorem app_none (x y : ByteArray) (h : appR x = (y, false)) : y = ⟨#[]⟩ := by
  unfold appR at h
  split at h
  next c => exact absurd (congrArg Prod.snd h) (by simp)
  next => exact (congrArg Prod.fst h).symm
set_option maxRecDepth 100000 in
set_option maxHeartbeats 16000000 in
theorem walk (A : Option Addr) (cp : Nat) (l : List Int) (w : World) (hr : Kd.C (Kd.int .u8) w A l.length l) (hc : l.length ≤ cp) (hl : isCode l) (hsh : w.ShapedOpen Tryd.prog) (hp : Pow w) (he1 : ErrAt 1 w) (he2 : ErrAt 2 w) : Calls Tryd.prog 9 #[.slice A l.length cp] w fun e w' => e = .returned (.bool true) ∧ Below w.heap.size w w' := by
  have HB := zM (Below.refl w.heap.size w)
  obtain ⟨m, hm⟩ := Tryd.laysM145.s1_3 w hsh
  have HCm := zM (fun (w' : World) (hb : Below w.heap.size w w') => pw_cell_below hb hm)
  have HP := zM (fun (w' : World) (hb : Below w.heap.size w w') => pow_below hp hb)
  have HE := zM (fun (w' : World) (hb : Below w.heap.size w w') => And.intro (errAt_below he1 hb) (errAt_below he2 hb))
  clear hm hsh hp he1 he2
  have HR := zM hr
  have HC := zM hc
  by_cases hbig : (l.length : Int) > 65536
  case pos =>
    have HV := zM (show laws_vBig.f l = some true by unfold laws_vBig.f; rw [decide_eq_true hbig])
    clear hbig hr hc hl HCm HP HE
    go_enter Tryd.func9, Tryd.ntmps9
    go_wp2_with (go_at_call 21; refine (laws_vBig.calls A cp l true _ HR.out HC.out HV.out).mono ?_; rintro e w1 ⟨rfl, hd⟩; have hb := Drawn0.below hd; replace HB := zM (below_step HB.out hb); clear hb hd)
    go_ret
    exact ⟨by first | rfl | (simp; done), HB.out⟩
  have HV := zM (show laws_vBig.f l = some false by unfold laws_vBig.f; rw [decide_eq_false hbig])
  obtain ⟨n, hn, hd1⟩ := spec_DrawFormatInt_calls l hl
  obtain ⟨t, ht, hd2⟩ := spec_DrawParseInt_calls l hl
  obtain ⟨x, hx, hd3⟩ := spec_DrawAppendChecksum_calls l hl
  obtain ⟨v9, e9, v90, v91⟩ := vAt_some l hl (by omega) 9 (by omega) (by omega)
  obtain ⟨v10, e10, va0, va1⟩ := vAt_some l hl (by omega) 10 (by omega) (by omega)
  have HD1 := zM hd1
  have HD2 := zM hd2
  have HD3 := zM hd3
  have H9 := zM e9
  have H10 := zM e10
  obtain ⟨kf, hkf⟩ := (spec_FormatInt_ev n).rounds
  have hfs := fmt_size n hn
  obtain ⟨⟨s, ok⟩, hf⟩ : ∃ r, fmtR n = r := ⟨_, rfl⟩
  rw [hf] at hkf hfs
  have HF := zM hf
  have HKF := zM hkf
  obtain ⟨⟨pm, pf⟩, hpe, hp0, hp1⟩ := spec_ParseInt_ev t
  obtain ⟨kp, hkp⟩ := hpe.rounds
  have HPT := zM (And.intro hp0 hp1)
  have HKP := zM hkp
  have HTS := zM (show t.size ≤ 1048576 by omega)
  have HSS := zM (show s.size ≤ 1048576 from hfs)
  obtain ⟨⟨bm, bf⟩, hbe, hb0, hb1⟩ := spec_ParseInt_ev s
  have HPS := zM (And.intro hb0 hb1)
  have hbk := back_told n s ok _ hf hb1
  have HXS := zM (show x.size ≤ 1048576 by omega)
  obtain ⟨ka, hka⟩ := (spec_AppendChecksum_ev x (by omega)).rounds
  obtain ⟨⟨y, sd⟩, ha⟩ : ∃ r, appR x = r := ⟨_, rfl⟩
  rw [ha] at hka
  have HA := zM ha
  have HKA := zM hka
  clear hbig hr hc hl hd1 hd2 hd3 e9 e10 hn ht hx hkf hf hfs hp0 hp1 hpe hkp hbe hb0 hb1 hka
  have hok : ok = false ∨ (ok = true ∧ bm = n ∧ bf = true) := by
    cases ok with
    | false => exact .inl rfl
    | true => have := hbk rfl; exact .inr ⟨rfl, congrArg Prod.fst this, congrArg Prod.snd this⟩
  clear hbk
  cases sd with
  | false =>
    have hy := app_none x y ha
    clear ha
    subst hy
    rcases hok with rfl | ⟨rfl, e1, rfl⟩
    · go_enter Tryd.func9, Tryd.ntmps9
      go_wp2_with (first
        | (go_at_call 21; refine (laws_vBig.calls A cp l false _ HR.out HC.out HV.out).mono ?_; rintro e w1 ⟨rfl, hd⟩; have hb := Drawn0.below hd; replace HB := zM (below_step HB.out hb); clear hb hd)
        | (go_at_call 31; refine (HD1.out A cp _ (Kd.C_below HR.out HB.out) HC.out).mono ?_; rintro e w1 ⟨rfl, hb⟩; replace HB := zM (below_step HB.out hb); clear hb)
        | (go_at_call 11; refine (impl_FormatInt_calls n _ (HP.out _ HB.out)).mono ?_; rw [HF.out]; rintro e w1 ⟨rfl, hb⟩; replace HB := zM (below_step HB.out hb); clear hb)
        | (go_at_call 10; refine (spec_FormatInt.calls kf n s false _ HKF.out).mono ?_; rintro e w1 ⟨rfl, hb⟩; replace HB := zM (below_step HB.out hb); clear hb)
        | (go_at_call 32; refine (HD2.out A cp _ (Kd.C_below HR.out HB.out) HC.out).mono ?_; rintro e w1 ⟨rfl, hb⟩; replace HB := zM (below_step HB.out hb); clear hb)
        | (go_at_call 30; with_reducible refine (impl_ParseInt_calls t HTS.out (pm, pf) HPT.out.1 HPT.out.2 _ (HP.out _ HB.out) (HE.out _ HB.out).1 (HE.out _ HB.out).2).mono ?_; rintro e w1 ⟨rfl, hb⟩; replace HB := zM (below_step HB.out hb); clear hb)
        | (go_at_call 29; refine (spec_ParseInt.calls kp t pm pf _ HKP.out).mono ?_; rintro e w1 ⟨rfl, hb⟩; replace HB := zM (below_step HB.out hb); clear hb)
        | (go_at_call 33; refine (HD3.out A cp _ (Kd.C_below HR.out HB.out) HC.out).mono ?_; rintro e w1 ⟨rfl, hb⟩; replace HB := zM (below_step HB.out hb); clear hb)
        | (go_at_call 18; refine (impl_AppendChecksum_calls x HXS.out _ (HP.out _ HB.out)).mono ?_; rw [HA.out]; rintro e w1 ⟨rfl, hb⟩; replace HB := zM (below_step HB.out hb); clear hb)
        | (go_at_call 17; refine (spec_AppendChecksum.calls ka x _ false _ HKA.out).mono ?_; rintro e w1 ⟨rfl, hb⟩; replace HB := zM (below_step HB.out hb); clear hb)
        | (go_at_call 30; with_reducible refine (impl_ParseInt_calls s HSS.out (bm, bf) HPS.out.1 HPS.out.2 _ (HP.out _ HB.out) (HE.out _ HB.out).1 (HE.out _ HB.out).2).mono ?_; rintro e w1 ⟨rfl, hb⟩; replace HB := zM (below_step HB.out hb); clear hb))
      go_ret
      exact ⟨by first | rfl | (simp; done), HB.out⟩
    · rw [e1] at HPS
      clear e1
      go_enter Tryd.func9, Tryd.ntmps9
      go_wp2_with (first
        | (go_at_call 21; refine (laws_vBig.calls A cp l false _ HR.out HC.out HV.out).mono ?_; rintro e w1 ⟨rfl, hd⟩; have hb := Drawn0.below hd; replace HB := zM (below_step HB.out hb); clear hb hd)
        | (go_at_call 31; refine (HD1.out A cp _ (Kd.C_below HR.out HB.out) HC.out).mono ?_; rintro e w1 ⟨rfl, hb⟩; replace HB := zM (below_step HB.out hb); clear hb)
        | (go_at_call 11; refine (impl_FormatInt_calls n _ (HP.out _ HB.out)).mono ?_; rw [HF.out]; rintro e w1 ⟨rfl, hb⟩; replace HB := zM (below_step HB.out hb); clear hb)
        | (go_at_call 10; refine (spec_FormatInt.calls kf n s true _ HKF.out).mono ?_; rintro e w1 ⟨rfl, hb⟩; replace HB := zM (below_step HB.out hb); clear hb)
        | (go_at_call 32; refine (HD2.out A cp _ (Kd.C_below HR.out HB.out) HC.out).mono ?_; rintro e w1 ⟨rfl, hb⟩; replace HB := zM (below_step HB.out hb); clear hb)
        | (go_at_call 30; with_reducible refine (impl_ParseInt_calls t HTS.out (pm, pf) HPT.out.1 HPT.out.2 _ (HP.out _ HB.out) (HE.out _ HB.out).1 (HE.out _ HB.out).2).mono ?_; rintro e w1 ⟨rfl, hb⟩; replace HB := zM (below_step HB.out hb); clear hb)
        | (go_at_call 29; refine (spec_ParseInt.calls kp t pm pf _ HKP.out).mono ?_; rintro e w1 ⟨rfl, hb⟩; replace HB := zM (below_step HB.out hb); clear hb)
        | (go_at_call 33; refine (HD3.out A cp _ (Kd.C_below HR.out HB.out) HC.out).mono ?_; rintro e w1 ⟨rfl, hb⟩; replace HB := zM (below_step HB.out hb); clear hb)
        | (go_at_call 18; refine (impl_AppendChecksum_calls x HXS.out _ (HP.out _ HB.out)).mono ?_; rw [HA.out]; rintro e w1 ⟨rfl, hb⟩; replace HB := zM (below_step HB.out hb); clear hb)
        | (go_at_call 17; refine (spec_AppendChecksum.calls ka x _ false _ HKA.out).mono ?_; rintro e w1 ⟨rfl, hb⟩; replace HB := zM (below_step HB.out hb); clear hb)
        | (go_at_call 30; with_reducible refine (impl_ParseInt_calls s HSS.out (n, true) HPS.out.1 HPS.out.2 _ (HP.out _ HB.out) (HE.out _ HB.out).1 (HE.out _ HB.out).2).mono ?_; rintro e w1 ⟨rfl, hb⟩; replace HB := zM (below_step HB.out hb); clear hb))
      go_ret
      exact ⟨by first | rfl | (simp; done), HB.out⟩
  | true =>
    obtain ⟨hx0, hx1, hx2, hy⟩ := app_told x y ha
    have HVY := zM (show verR y = (x, true) by rw [hy]; exact ver_seal x hx1 hx2)
    have hy0 : 0 < y.size := by rw [hy, seal_size]; omega
    have HYS := zM (show y.size ≤ 1048576 by rw [hy]; omega)
    have hk := tmod_in (x := v9) (n := 255) v90 (by omega)
    obtain ⟨KK, hKK⟩ : ∃ K : Nat, Int.tmod v9 (y.size : Int) = (K : Int) := Int.eq_ofNat_of_zero_le (Int.tmod_nonneg _ v90)
    have hK1 : KK < y.size := by have := Int.tmod_lt_of_pos v9 (b := (y.size : Int)) (by omega); omega
    obtain ⟨ex, hex⟩ : ∃ e : Int, Int.tmod v10 255 = e := ⟨_, rfl⟩
    have hex1 := tmod_in (x := v10) (n := 255) va0 (by omega)
    rw [hex] at hex1
    have hkl : KK < (bytesL y).length := by rw [bytesL_len]; exact hK1
    obtain ⟨old, hold⟩ : ∃ b : Int, (bytesL y)[KK] = b := ⟨_, rfl⟩
    have HOLD := zM (show (bytesL y)[KK]? = some old by rw [List.getElem?_eq_getElem hkl, hold])
    have hob : 0 ≤ old ∧ old ≤ 255 := by
      rw [← hold]
      have := (y.data.toList[KK]'(by rw [bytesL, List.length_map] at hkl; exact hkl)).toNat_lt
      simp only [bytesL, List.getElem_map]
      omega
    obtain ⟨r, hr, hr0, hr1, hr2⟩ := xor_other old (1 + ex) hob.1 hob.2 (by omega) (by omega)
    have HYB := zM (show (strOfNums ((bytesL y).set KK r)).size ≤ 1048576 by rw [strOfNums_size, List.length_set, bytesL_len]; exact HYS.out)
    have HVB := zM (show verR (strOfNums ((bytesL y).set KK r)) = (⟨#[]⟩, false) by
      subst hy
      exact ver_struck x KK r hx1 hkl hr0 hr1 (by rw [hold]; exact hr2))
    have HKL := zM hkl
    have z1 : ((y.size : Int) == 0) = false := beq_eq_false_iff_ne.mpr (by omega)
    have z2 : ¬ (y.size : Int) = 0 := by omega
    have z3 : wrap64 (KK : Int) = (KK : Int) := wrap_nat (by omega) (by have := HYS.out; omega)
    have z4 : decide ((KK : Int) < (y.size : Int)) = true := decide_eq_true (Int.ofNat_lt.mpr hK1)
    have z5 : decide (KK < y.size) = true := decide_eq_true hK1
    have z6 : wrap64 (1 + ex) = 1 + ex := wrap_nat (by omega) (by omega)
    have z7 : wrap64 ex = ex := wrap_nat (by omega) (by omega)
    have z8 : IntKind.u8.wrap (1 + ex) = 1 + ex := u8_wrap (by omega) (by omega)
    clear hy hy0 hx0 hx1 hx2 hk hob hr0 hr1 hr2 hkl ha hold va0 va1 v90 v91 hex1
    rcases hok with rfl | ⟨rfl, e1, rfl⟩
    · go_enter Tryd.func9, Tryd.ntmps9
      go_upto_region 22 with (first
        | (go_at_call 21; refine (laws_vBig.calls A cp l false _ HR.out HC.out HV.out).mono ?_; rintro e w1 ⟨rfl, hd⟩; have hb := Drawn0.below hd; replace HB := zM (below_step HB.out hb); clear hb hd)
        | (go_at_call 31; refine (HD1.out A cp _ (Kd.C_below HR.out HB.out) HC.out).mono ?_; rintro e w1 ⟨rfl, hb⟩; replace HB := zM (below_step HB.out hb); clear hb)
        | (go_at_call 11; refine (impl_FormatInt_calls n _ (HP.out _ HB.out)).mono ?_; rw [HF.out]; rintro e w1 ⟨rfl, hb⟩; replace HB := zM (below_step HB.out hb); clear hb)
        | (go_at_call 10; refine (spec_FormatInt.calls kf n s false _ HKF.out).mono ?_; rintro e w1 ⟨rfl, hb⟩; replace HB := zM (below_step HB.out hb); clear hb)
        | (go_at_call 32; refine (HD2.out A cp _ (Kd.C_below HR.out HB.out) HC.out).mono ?_; rintro e w1 ⟨rfl, hb⟩; replace HB := zM (below_step HB.out hb); clear hb)
        | (go_at_call 30; with_reducible refine (impl_ParseInt_calls t HTS.out (pm, pf) HPT.out.1 HPT.out.2 _ (HP.out _ HB.out) (HE.out _ HB.out).1 (HE.out _ HB.out).2).mono ?_; rintro e w1 ⟨rfl, hb⟩; replace HB := zM (below_step HB.out hb); clear hb)
        | (go_at_call 29; refine (spec_ParseInt.calls kp t pm pf _ HKP.out).mono ?_; rintro e w1 ⟨rfl, hb⟩; replace HB := zM (below_step HB.out hb); clear hb)
        | (go_at_call 33; refine (HD3.out A cp _ (Kd.C_below HR.out HB.out) HC.out).mono ?_; rintro e w1 ⟨rfl, hb⟩; replace HB := zM (below_step HB.out hb); clear hb)
        | (go_at_call 18; refine (impl_AppendChecksum_calls x HXS.out _ (HP.out _ HB.out)).mono ?_; rw [HA.out]; rintro e w1 ⟨rfl, hb⟩; replace HB := zM (below_step HB.out hb); clear hb)
        | (go_at_call 17; refine (spec_AppendChecksum.calls ka x y true _ HKA.out).mono ?_; rintro e w1 ⟨rfl, hb⟩; replace HB := zM (below_step HB.out hb); clear hb)
        | (go_at_call 30; with_reducible refine (impl_ParseInt_calls s HSS.out (bm, bf) HPS.out.1 HPS.out.2 _ (HP.out _ HB.out) (HE.out _ HB.out).1 (HE.out _ HB.out).2).mono ?_; rintro e w1 ⟨rfl, hb⟩; replace HB := zM (below_step HB.out hb); clear hb)
        | (go_at_call 20; refine (impl_VerifyChecksum_calls y HYS.out m _ (HCm.out _ HB.out) (HP.out _ HB.out)).mono ?_; rw [HVY.out]; rintro e w1 ⟨rfl, hb⟩; replace HB := zM (below_step HB.out hb); clear hb)
        | ((with_reducible refine gate_dst (N := 117) rfl ?_); refine to_bytes_event y (.tmp 116) rfl rfl rfl ?_; intro g cap w1 hg hbb hb; have HBB := zM hbb; have HG := zM (show w.heap.size ≤ g by rw [hg]; exact below_size HB.out); replace HB := zM (below_step HB.out hb); clear hg hbb hb)
        | (go_at_call 34; refine (laws_vAt.calls A cp l 9 v9 _ (Kd.C_below HR.out HB.out) HC.out H9.out).mono ?_; rintro e w1 ⟨rfl, hd⟩; have hb := Drawn0.below hd; replace HBB := zM (HBB.out.below hb); replace HB := zM (below_step HB.out hb); clear hb hd))
      (try simp only [Act.put, List.setIfInBounds_toArray, List.set_cons_zero, List.set_cons_succ])
      refine start_ (ds := [13]) (S := fun w' => BB w' g (bytesL y)) (n := 14) (Array.replicate 14 false) (by kernel_rfl) (by exact rfl) rfl (HBB.out.move rfl) (fun hHeld => ?_)
      have HB1 := zM (below_drew HB.out)
      clear HB HBB
      generalize World.drew _ = W1 at HB1 hHeld ⊢
      have HB := HB1
      clear HB1
      refine zq 0 123 ?_
      refine zq 1 124 ?_
      refine zq 2 125 ?_
      refine zq 3 126 ?_
      refine zq 4 127 ?_
      refine zl 5 128 hHeld ?_ (hy := by rintro w' s0; have h_ := s0.cell2 HOLD.out; go_simp; with_reducible rfl)
      refine zq 6 129 ?_
      refine zh 7 130 Tryd.func34 #[.slice A l.length cp, .int .i64 10] (fun K hK => ?_)
      refine (laws_vAt.calls A cp l 10 v10 _ (Kd.C_below HR.out HB.out) HC.out H10.out).mono ?_
      rintro e w3 ⟨rfl, hd⟩
      have hb := Drawn0.below hd
      refine ⟨_, rfl, ?_⟩
      refine hK.out _ _ (hHeld.below hb) (fun hHeld => ?_)
      replace HB := zM (below_step HB.out hb)
      clear hK K hb hd
      refine zn 130 ?_
      refine zq 8 131 ?_
      refine zq 9 132 ?_
      refine zq 10 133 ?_
      refine zq 11 134 ?_
      refine zq 12 135 ?_
      refine zw_store (x := r) 13 (.tmp 135) (.tmp 134) hHeld HKL.out (by first | rfl | (show Value.pointer (some (Addr.add _ _)) = _; unfold Addr.add; split <;> simp_all)) (by first | rfl | (show Value.int _ _ = _; rw [hr])) ?_
      have HBB := zM (hHeld.set KK HKL.out r)
      replace HB := zM (below_set HB.out HG.out : Below w.heap.size w (World.setCell _ ⟨g, KK, none⟩ (.int .u8 r)))
      clear hHeld
      generalize World.setCell _ _ _ = W4 at HB HBB ⊢
      refine zx ?_
      go_wp2_with (first
        | ((with_reducible refine gate_dst (N := 138) rfl ?_); refine from_bytes_event ((bytesL y).set KK r) y.size g cap (.tmp 137) rfl rfl rfl (by rw [List.length_set, bytesL_len]) HBB.out ?_; generalize strOfNums ((bytesL y).set KK r) = y2 at HVB HYB ⊢; clear HBB)
        | (go_at_call 20; refine (impl_VerifyChecksum_calls y2 HYB.out m _ (HCm.out _ HB.out) (HP.out _ HB.out)).mono ?_; rw [HVB.out]; rintro e w1 ⟨rfl, hb⟩; replace HB := zM (below_step HB.out hb); clear hb))
      go_ret
      exact ⟨by first | rfl | (simp; done), HB.out⟩
    · rw [e1] at HPS
      clear e1
      go_enter Tryd.func9, Tryd.ntmps9
      go_upto_region 22 with (first
        | (go_at_call 21; refine (laws_vBig.calls A cp l false _ HR.out HC.out HV.out).mono ?_; rintro e w1 ⟨rfl, hd⟩; have hb := Drawn0.below hd; replace HB := zM (below_step HB.out hb); clear hb hd)
        | (go_at_call 31; refine (HD1.out A cp _ (Kd.C_below HR.out HB.out) HC.out).mono ?_; rintro e w1 ⟨rfl, hb⟩; replace HB := zM (below_step HB.out hb); clear hb)
        | (go_at_call 11; refine (impl_FormatInt_calls n _ (HP.out _ HB.out)).mono ?_; rw [HF.out]; rintro e w1 ⟨rfl, hb⟩; replace HB := zM (below_step HB.out hb); clear hb)
        | (go_at_call 10; refine (spec_FormatInt.calls kf n s true _ HKF.out).mono ?_; rintro e w1 ⟨rfl, hb⟩; replace HB := zM (below_step HB.out hb); clear hb)
        | (go_at_call 32; refine (HD2.out A cp _ (Kd.C_below HR.out HB.out) HC.out).mono ?_; rintro e w1 ⟨rfl, hb⟩; replace HB := zM (below_step HB.out hb); clear hb)
        | (go_at_call 30; with_reducible refine (impl_ParseInt_calls t HTS.out (pm, pf) HPT.out.1 HPT.out.2 _ (HP.out _ HB.out) (HE.out _ HB.out).1 (HE.out _ HB.out).2).mono ?_; rintro e w1 ⟨rfl, hb⟩; replace HB := zM (below_step HB.out hb); clear hb)
        | (go_at_call 29; refine (spec_ParseInt.calls kp t pm pf _ HKP.out).mono ?_; rintro e w1 ⟨rfl, hb⟩; replace HB := zM (below_step HB.out hb); clear hb)
        | (go_at_call 33; refine (HD3.out A cp _ (Kd.C_below HR.out HB.out) HC.out).mono ?_; rintro e w1 ⟨rfl, hb⟩; replace HB := zM (below_step HB.out hb); clear hb)
        | (go_at_call 18; refine (impl_AppendChecksum_calls x HXS.out _ (HP.out _ HB.out)).mono ?_; rw [HA.out]; rintro e w1 ⟨rfl, hb⟩; replace HB := zM (below_step HB.out hb); clear hb)
        | (go_at_call 17; refine (spec_AppendChecksum.calls ka x y true _ HKA.out).mono ?_; rintro e w1 ⟨rfl, hb⟩; replace HB := zM (below_step HB.out hb); clear hb)
        | (go_at_call 30; with_reducible refine (impl_ParseInt_calls s HSS.out (n, true) HPS.out.1 HPS.out.2 _ (HP.out _ HB.out) (HE.out _ HB.out).1 (HE.out _ HB.out).2).mono ?_; rintro e w1 ⟨rfl, hb⟩; replace HB := zM (below_step HB.out hb); clear hb)
        | (go_at_call 20; refine (impl_VerifyChecksum_calls y HYS.out m _ (HCm.out _ HB.out) (HP.out _ HB.out)).mono ?_; rw [HVY.out]; rintro e w1 ⟨rfl, hb⟩; replace HB := zM (below_step HB.out hb); clear hb)
        | ((with_reducible refine gate_dst (N := 117) rfl ?_); refine to_bytes_event y (.tmp 116) rfl rfl rfl ?_; intro g cap w1 hg hbb hb; have HBB := zM hbb; have HG := zM (show w.heap.size ≤ g by rw [hg]; exact below_size HB.out); replace HB := zM (below_step HB.out hb); clear hg hbb hb)
        | (go_at_call 34; refine (laws_vAt.calls A cp l 9 v9 _ (Kd.C_below HR.out HB.out) HC.out H9.out).mono ?_; rintro e w1 ⟨rfl, hd⟩; have hb := Drawn0.below hd; replace HBB := zM (HBB.out.below hb); replace HB := zM (below_step HB.out hb); clear hb hd))
      (try simp only [Act.put, List.setIfInBounds_toArray, List.set_cons_zero, List.set_cons_succ])
      refine start_ (ds := [13]) (S := fun w' => BB w' g (bytesL y)) (n := 14) (Array.replicate 14 false) (by kernel_rfl) (by exact rfl) rfl (HBB.out.move rfl) (fun hHeld => ?_)
      have HB1 := zM (below_drew HB.out)
      clear HB HBB
      generalize World.drew _ = W1 at HB1 hHeld ⊢
      have HB := HB1
      clear HB1
      refine zq 0 123 ?_
      refine zq 1 124 ?_
      refine zq 2 125 ?_
      refine zq 3 126 ?_
      refine zq 4 127 ?_
      refine zl 5 128 hHeld ?_ (hy := by rintro w' s0; have h_ := s0.cell2 HOLD.out; go_simp; with_reducible rfl)
      refine zq 6 129 ?_
      refine zh 7 130 Tryd.func34 #[.slice A l.length cp, .int .i64 10] (fun K hK => ?_)
      refine (laws_vAt.calls A cp l 10 v10 _ (Kd.C_below HR.out HB.out) HC.out H10.out).mono ?_
      rintro e w3 ⟨rfl, hd⟩
      have hb := Drawn0.below hd
      refine ⟨_, rfl, ?_⟩
      refine hK.out _ _ (hHeld.below hb) (fun hHeld => ?_)
      replace HB := zM (below_step HB.out hb)
      clear hK K hb hd
      refine zn 130 ?_
      refine zq 8 131 ?_
      refine zq 9 132 ?_
      refine zq 10 133 ?_
      refine zq 11 134 ?_
      refine zq 12 135 ?_
      refine zw_store (x := r) 13 (.tmp 135) (.tmp 134) hHeld HKL.out (by first | rfl | (show Value.pointer (some (Addr.add _ _)) = _; unfold Addr.add; split <;> simp_all)) (by first | rfl | (show Value.int _ _ = _; rw [hr])) ?_
      have HBB := zM (hHeld.set KK HKL.out r)
      replace HB := zM (below_set HB.out HG.out : Below w.heap.size w (World.setCell _ ⟨g, KK, none⟩ (.int .u8 r)))
      clear hHeld
      generalize World.setCell _ _ _ = W4 at HB HBB ⊢
      refine zx ?_
      go_wp2_with (first
        | ((with_reducible refine gate_dst (N := 138) rfl ?_); refine from_bytes_event ((bytesL y).set KK r) y.size g cap (.tmp 137) rfl rfl rfl (by rw [List.length_set, bytesL_len]) HBB.out ?_; generalize strOfNums ((bytesL y).set KK r) = y2 at HVB HYB ⊢; clear HBB)
        | (go_at_call 20; refine (impl_VerifyChecksum_calls y2 HYB.out m _ (HCm.out _ HB.out) (HP.out _ HB.out)).mono ?_; rw [HVB.out]; rintro e w1 ⟨rfl, hb⟩; replace HB := zM (below_step HB.out hb); clear hb))
      go_ret
      exact ⟨by first | rfl | (simp; done), HB.out⟩
theorem laidOut : laidOutB Tryd.prog = true := by kernel_rfl
set_option maxRecDepth 1000000 in
theorem contract (H : Type) (enc : TypeId × Value → H) (W : World) (base : Nat) (args : Array Value) (ds gs : List (DataW H)) (before : List MemPlace)
    (hval : ∀ (j : Nat) t v, Tryd.f9.params[j]? = some t → args[j]? = some v → Value.okWide Tryd.prog W .any base t v)
    (hW : DataW.Whole enc Tryd.prog Tryd.f9.params.toList Rows.fnStringsSpec.vars false W args.toList ds gs before) (hsz0 : (DataW.weightsEach Tryd.prog (Tryd.f9.params.toList ++ (OpenSpec.ofChange Rows.fnStringsSpec).bare.plain.varTypes Tryd.prog) (ds ++ gs)).all (· ≤ reachBytes) = true) (hL : laidMetH Tryd.prog Rows.fnStringsRow.laid W) (hsh : W.ShapedOpen Tryd.prog) :
    Calls Tryd.prog 9 args W fun e W' => ∃ v, e = .returned v ∧ Rows.fnStringsSpec.post enc Tryd.prog Tryd.f9 false true false false W args v W' := by
  have hsz : (DataW.weightsEach Tryd.prog (Tryd.f9.params.toList ++ Rows.fnStringsSpec.plain.varTypes Tryd.prog) (ds ++ gs)).all (· ≤ reachBytes) = true := hsz0
  have hW' := hW
  obtain ⟨p, q, hA0, hV, rfl, hfz, hnd⟩ := hW
  have hA : DataW.TrodAll enc Tryd.prog W 0 (fun _ => true) true Tryd.f9.params.toList args.toList ds p := hA0
  rw [Tryd.params9] at hA hval hsz
  obtain ⟨v0, vs0, d0, ds0, p0, q0, hargs, rfl, rfl, h0, r0⟩ := trodAll_cons hA
  obtain ⟨rfl, rfl, rfl⟩ := trodAll_nil r0
  obtain rfl : args = #[v0] := by cases args; simp_all
  obtain ⟨rfl, rfl⟩ := trodVars_none hV
  have k0 := h0
  have lt0 : ∀ x ∈ p0, x.block < W.heap.size := by obtain ⟨m, hm⟩ := k0; exact DataW.trod_lt m _ _ _ hm
  obtain ⟨aa0, len0, cap0, rfl⟩ := okWide_slice Tryd.underlying33 (hval 0 33 v0 rfl rfl)
  obtain ⟨fuel0, hf0⟩ := h0
  obtain ⟨A0, c0, l0, ev0, hc0, hr0, hn0, hl0⟩ := read_bytes hf0
  rw [ev0] at k0 hW' ⊢
  clear hA0 hsz0 hsz
  have hp : Pow W := pow_of_laid hL
  have he := errs_of_laid hL
  refine (walk A0 c0 l0 W hr0 hc0 hl0 hsh hp he.1 he.2).mono fun e W' ⟨he, bel⟩ => ?_
  subst he
  exact ⟨_, rfl, _, _, _, [], _, [], hW', trodAll_mk1 (shut_bool Tryd.underlying4 _), (trodAll_cons_mk (Below.trod laidOut (by kernel_rfl) (of_decide_eq_true (by kernel_rfl)) k0 bel lt0) trodAll_mk0), rfl, bel.frame _, fun h => by cases h⟩
theorem laid_met (os : Os) : laidMet Tryd.prog Rows.fnStringsRow.laid ((errWorld os).forCall (fun _ _ => 0) ⟨#[], #[.slice none 0 0], []⟩).memory :=
  laidMet_of_run' 80 (by kernel_rfl) (by kernel_rfl)
theorem reads (os : Os) {H : Type} (enc : TypeId × Value → H) : ∃ places, DataW.whole enc Tryd.prog ((errWorld os).forCall (fun _ _ => 0) ⟨#[], #[.slice none 0 0], []⟩).memory Tryd.f9.params.toList Rows.fnStringsSpec.vars false #[Value.slice none 0 0].toList 8 = some ([.nil], [], places) :=
  ⟨[], by kernel_rfl⟩
set_option maxRecDepth 100000 in
theorem lifted (os : Os) (started : os.Started) (H : Type) (enc : TypeId × Value → H) (F : Stop.Interp) :
    ReturnsInHanded {} Tryd.checked os 9 .any ((OpenSpec.ofChange Rows.fnStringsSpec).preRow enc Tryd.prog Tryd.f9 Rows.fnStringsRow.domain false Rows.fnStringsRow.laid) (((OpenSpec.ofChange Rows.fnStringsSpec).at F).post enc Tryd.prog Tryd.f9 false true false false) := by
  obtain ⟨places, hx⟩ := reads os enc
  refine returnsInHanded_of_row (C := Tryd.checked) (s := OpenSpec.ofChange Rows.fnStringsSpec) own started (by kernel_rfl) Tryd.func9
    (witness_row_at (enc := enc) (C := Tryd.checked) false (errWorld os) #[.slice none 0 0] rfl (by kernel_rfl) (by kernel_rfl) (by kernel_rfl)
      (OpenSpec.preRow_of_cond 8 hx (by kernel_rfl) (fun k hk => by cases hk) (by kernel_rfl) (laid_met os))) ?_
  intro W base args ds gs before hval hW _ _ hsz hL hsh _
  exact contract H enc W base args ds gs before hval hW hsz hL hsh
theorem said : Rows.FnStringsSaid :=
  OpenClaim.holds_of_cond 9 Tryd.f9 rfl rfl rfl rfl rfl rfl rfl ⟨rfl, rfl, rfl, rfl, rfl⟩ rfl rfl rfl rfl rfl (by kernel_rfl) Tryd.func9 (by kernel_rfl)
    (of_decide_eq_true (by kernel_rfl)) (by unfold Func.isWrapper; first | (rw [if_pos (by decide +kernel)]; kernel_rfl) | (rw [if_neg (by decide +kernel)]; exact ⟨rfl, rfl⟩))
    (fun os started H enc _ F => by rw [OpenClaim.pre_eq_preRow]; exact lifted os started H enc F)
theorem plain (f : FuncId) (fn : Func) (hf : Tryd.pinned.checked.prog.funcNamed "loop.example/g01128/laws.FnStrings" = some f) (hfn : Tryd.pinned.checked.prog.funcs[f]? = some fn) :
    true = Tryd.pinned.checked.prog.looks [] ∧ ∀ (j : Nat) t, fn.params[j]? = some t → Tryd.pinned.checked.prog.wantsStandIn t = false := by
  obtain rfl : f = 9 := Option.some.inj ((show Tryd.prog.funcNamed "loop.example/g01128/laws.FnStrings" = some 9 by kernel_rfl).symm.trans hf) |>.symm
  obtain rfl : fn = Tryd.f9 := (Option.some.inj (Tryd.func9.symm.trans hfn)).symm
  refine ⟨by kernel_rfl, fun j t ht => ?_⟩
  rw [Tryd.params9] at ht
  obtain rfl : t = 33 := by simpa using Array.mem_of_getElem? ht
  exact (show Tryd.prog.wantsStandIn 33 = false by kernel_rfl)
theorem card : Rows.FnStringsCardSaid :=
  Claim7.holds_tied_plain_at .later [] _ _ _ _ said (fun _ h => by cases h) (by kernel_rfl) (fun _ h => by cases h) fnStrings_row_tie rfl ⟨rfl, rfl⟩ (by kernel_rfl) rfl plain (by kernel_rfl)
end Go.Proofs.YtcjfmohmjhjpoaaDoor.fnStrings
namespace Go.Proofs.YtcjfmohmjhjpoaaDoor
/-- The card, under a short name, for the claim. -/
theorem fnStrings_holds : Rows.FnStringsCardSaid := fnStrings.card
#print axioms fnStrings_holds
end Go.Proofs.YtcjfmohmjhjpoaaDoor
