-- Written by a program of this session (the kit's print, turned: wip/print/patch.py) out of the translation. Not trusted: Lean checks it.
import Derived.Test.YtihfpngolcjkiaaProductSpaceG3
import Derived.Test.YtihfpngolcjkiaaProg
import Derived.ChangeKeysEq
import Derived.Below
import Derived.Deep.Draws
import Derived.Deep.AppendLies
import Derived.Maps.AppendAt
import Derived.OwnWalk
import Derived.Laws.BytesArg
import Derived.Laws.MakeOwn
import Derived.Laws.OwnMore
import Derived.Deep.OwnRows
import Derived.Tactics
import Derived.Lib.ConvBytes
import Derived.Laws.Slices
import Derived.WalkKit
import Derived.KernelRfl
import Derived.RowKit3
import Derived.Deep.LoopGhost
import Derived.Deep.QuietTactic
import Derived.BigQuiet
import Derived.WideLaws
import Derived.Deep.DeepCutAuto
import Derived.Deep.CutBlock
import Derived.Deep.RegionHeld3
import Derived.Laws.Rows
import Derived.Lib.AppendStr
import Derived.ArgAppend
import Derived.Laws.IdiomCopy
import Derived.OrdersHeld
import Derived.Laws.BitsLemmas
import Derived.RowKit
import Derived.Test.YtihfpngolcjkiaaProductSpaceG1
import Derived.Test.YtihfpngolcjkiaaProductSpaceG0
import Derived.Test.YtihfpngolcjkiaaProductSpaceG2
import Derived.Laws.StructEq
import Derived.Handy
namespace Go.Proofs.Ytihfpngolcjkiaa.P
open Go.RowKit Go.Proofs.YtihfpngolcjkiaaW.PrintWords Go.Proofs.YtihfpngolcjkiaaW.PrintLast Go.Proofs.YtihfpngolcjkiaaW.PrintMore
attribute [local go_sem] max2_int min2_int max_two min_two max_three min_three max_four min_four   -- for this text's walks alone
set_option linter.unusedVariables false
set_option linter.unusedSimpArgs false



def errW : Option Int → Value
 | none => .nilIface
 | some c => .iface 0 (.int .i64 c)
theorem errW_none : errW none = .nilIface := rfl
theorem errW_some (c : Int) : errW (some c) = .iface 0 (.int .i64 c) := rfl

theorem info3 : (Try.prog.info? 3).map (fun i => (i.zero, i.size, i.bytes)) = some (some (.int .i64 0), 1, 8) := by kernel_rfl
theorem info39 : (Try.prog.info? 39).map (fun i => (i.zero, i.size, i.bytes)) = some (some (.slice none 0 0), 1, 24) := by kernel_rfl
theorem info41 : (Try.prog.info? 41).map (fun i => (i.zero, i.size, i.bytes)) = some (some (.agg #[(.int .i64 0), (.int .i64 0)]), 2, 16) := by kernel_rfl
-- the values' own types
def rd_L1 (xs : List (List Int)) (i : Int) : (List Int) := xs.getD i.toNat ([] : List Int)
theorem at_L1 {w : World} {A : Option Addr} {n : Nat} {xs : List (List Int)} (h : Kd.C (Kd.slice 3 (Kd.int .i64)) w A n xs) (i : Int) (h0 : 0 ≤ i) (h1 : i < n) : ∃ ad A0 c0, A = some ad ∧ w.cell? (ad.add i.toNat) = some (.slice A0 (rd_L1 xs i).length c0) ∧ (rd_L1 xs i).length ≤ c0 ∧ (Kd.int .i64).C w A0 (rd_L1 xs i).length (rd_L1 xs i) := by
 obtain ⟨ad, c, e, _, hK, hc0⟩ := Kd.C_get h ([] : List Int) i h0 h1
 have hc : ∀ j u, c[j]? = some u → w.cell? (ad.add (i.toNat * 1 + j)) = some u := hc0
 obtain ⟨A0, c0, rfl, l0, g0⟩ := hK
 exact ⟨ad, A0, c0, e, by have hq := hc 0 _ rfl; rwa [Nat.mul_one, Nat.add_zero] at hq, l0, g0⟩

/-! #### struct type 41 -/
structure S41 where
 f0 : Int
 f1 : Int
def z41 : S41 := ⟨(0 : Int), (0 : Int)⟩
def k41 : Kd S41 := Kd.iso (Kd.pair (Kd.int .i64) (Kd.int .i64)) (fun x : S41 => (x.f0, x.f1))
theorem k41_open {w : World} {x : S41} {cs : List Value} (h : k41.K w x cs) : cs = [.int .i64 x.f0, .int .i64 x.f1] := by
 obtain ⟨_, _, rfl, rfl, rfl⟩ := h
 exact rfl
theorem k41_openM {w : World} {base : Nat} {ok : Nat → Prop} {x : S41} {cs : List Value} (h : k41.M w base ok x cs) : cs = [.int .i64 x.f0, .int .i64 x.f1] := by
 obtain ⟨_, _, rfl, rfl, rfl⟩ := h
 exact rfl
theorem k41_mk (w : World) (x : S41)  : k41.K w x [.int .i64 x.f0, .int .i64 x.f1] := ⟨[.int .i64 x.f0], [.int .i64 x.f1], rfl, rfl, rfl⟩
theorem k41_mkM (w : World) (base : Nat) (ok : Nat → Prop) (x : S41)  : k41.M w base ok x [.int .i64 x.f0, .int .i64 x.f1] := ⟨[.int .i64 x.f0], [.int .i64 x.f1], rfl, rfl, rfl⟩
def rd_T41 (xs : List S41) (i : Int) : S41 := xs.getD i.toNat z41
theorem at_T41 {w : World} {A : Option Addr} {n : Nat} {xs : List S41} (h : Kd.C k41 w A n xs) (i : Int) (h0 : 0 ≤ i) (h1 : i < n) : ∃ ad , A = some ad ∧ w.cell? (ad.add (i.toNat * 2)) = some (.int .i64 (rd_T41 xs i).f0) ∧ w.cell? ⟨(ad.add (i.toNat * 2)).block, (ad.add (i.toNat * 2)).off + 1, none⟩ = some (.int .i64 (rd_T41 xs i).f1) := by
 obtain ⟨ad, c, e, _, hK, hc0⟩ := Kd.C_get h z41 i h0 h1
 have hc : ∀ j u, c[j]? = some u → w.cell? (ad.add (i.toNat * 2 + j)) = some u := hc0
 obtain rfl := k41_open hK
 exact ⟨ad, e, hc 0 _ rfl, by rw [← add_field _ _ 1 (by omega)]; exact hc 1 _ rfl⟩

end Go.Proofs.Ytihfpngolcjkiaa.P
namespace Go.Proofs.Ytihfpngolcjkiaa.P
open Go.RowKit Go.Proofs.YtihfpngolcjkiaaW.PrintWords Go.Proofs.YtihfpngolcjkiaaW.PrintLast Go.Proofs.YtihfpngolcjkiaaW.PrintMore
set_option linter.unusedVariables false
set_option linter.unusedSimpArgs false

def laws_toIntA2.f (a0_0 : Int) (a0_1 : Int) : Option (Int × Int) := some (a0_0, a0_1)
set_option maxHeartbeats 1000000 in
theorem laws_toIntA2.calls (a0_0 : Int) (a0_1 : Int) (r1 : Int) (r2 : Int) (w : World) (h : laws_toIntA2.f a0_0 a0_1 = some (r1, r2)) :
    Calls Try.prog 52 #[.agg #[.int .i64 a0_0, .int .i64 a0_1]] w fun e w' => e = .returned (.agg #[.int .i64 r1, .int .i64 r2]) ∧ Below w.heap.size w w' := by
  unfold laws_toIntA2.f at h
  simp only [Option.some.injEq, Prod.mk.injEq] at h
  obtain ⟨rfl, rfl⟩ := h
  go_enter Try.func52, Try.ntmps52
  go_wp2
  go_rounds 3
  exact bodyPost_ret (v := .agg #[.int .i64 a0_0, .int .i64 a0_1]) (by simp [results, Try.results52, go_sem]) rfl ⟨rfl, by repeat (first | exact Below.refl _ _ | apply below_alloc | apply pw_below_drewN | apply below_drew1)⟩

def laws_eqIntA2.f (a0_0 : Int) (a0_1 : Int) (a1_0 : Int) (a1_1 : Int) : Option Bool := some (a0_0 == a1_0 && a0_1 == a1_1)
set_option maxHeartbeats 1000000 in
theorem laws_eqIntA2.calls (a0_0 : Int) (a0_1 : Int) (a1_0 : Int) (a1_1 : Int) (r : Bool) (w : World) (h : laws_eqIntA2.f a0_0 a0_1 a1_0 a1_1 = some r) :
    Calls Try.prog 62 #[.agg #[.int .i64 a0_0, .int .i64 a0_1], .agg #[.int .i64 a1_0, .int .i64 a1_1]] w fun e w' => e = .returned (.bool r) ∧ Below w.heap.size w w' := by
  unfold laws_eqIntA2.f at h
  obtain rfl := Option.some.inj h
  clear h
  by_cases h0 : a0_0 = a1_0
  · have h0b : (a0_0 != a1_0) = false := bne_eq_false_iff_eq.mpr h0
    have h0c : (a0_0 == a1_0) = true := beq_iff_eq.mpr h0
    clear h0
    by_cases h1 : a0_1 = a1_1
    · have h1b : (a0_1 != a1_1) = false := bne_eq_false_iff_eq.mpr h1
      have h1c : (a0_1 == a1_1) = true := beq_iff_eq.mpr h1
      clear h1
      go_enter Try.func62, Try.ntmps62
      go_wp2
      refine wp_loop_rounds 3 ?_
      rw [rounds_succ]; go_wp2; go_quiet (fail); go_wp2
      rw [rounds_succ]; go_wp2; go_quiet (fail); go_wp2
      rw [rounds_succ]; go_wp2
      go_ret
      exact ⟨by simp [*], by repeat (first | exact Below.refl _ _ | apply below_alloc | apply pw_below_drewN | apply below_drew1)⟩
    · have h1b : (a0_1 != a1_1) = true := bne_iff_ne.mpr h1
      have h1c : (a0_1 == a1_1) = false := beq_eq_false_iff_ne.mpr h1
      clear h1
      go_enter Try.func62, Try.ntmps62
      go_wp2
      refine wp_loop_rounds 3 ?_
      rw [rounds_succ]; go_wp2; go_quiet (fail); go_wp2
      rw [rounds_succ]; go_wp2; go_quiet (fail); go_wp2
      go_ret
      exact ⟨by simp [*], by repeat (first | exact Below.refl _ _ | apply below_alloc | apply pw_below_drewN | apply below_drew1)⟩
  · have h0b : (a0_0 != a1_0) = true := bne_iff_ne.mpr h0
    have h0c : (a0_0 == a1_0) = false := beq_eq_false_iff_ne.mpr h0
    clear h0
    go_enter Try.func62, Try.ntmps62
    go_wp2
    refine wp_loop_rounds 3 ?_
    rw [rounds_succ]; go_wp2; go_quiet (fail); go_wp2
    go_ret
    exact ⟨by simp [*], by repeat (first | exact Below.refl _ _ | apply below_alloc | apply pw_below_drewN | apply below_drew1)⟩

def held2 : List S41 → Int → Int
  | [], k => k
  | e :: t, k => if e.f0 = k then if e.f1 = wrap64 (k + 1) then held2 t (wrap64 (wrap64 (k + 1) + 1)) else -1 else -1
def laws_heldIntA2S.f (l0 : List S41) (a1 : Int) : Option Int := some (held2 l0 a1)
set_option maxRecDepth 100000 in
set_option maxHeartbeats 2000000 in
theorem laws_heldIntA2S.calls (A0 : Option Addr) (c0 : Nat) (l0 : List S41) (a1 : Int) (r : Int) (w : World) (hr0 : Kd.C k41 w A0 l0.length l0) (hc0 : l0.length ≤ c0) (h : laws_heldIntA2S.f l0 a1 = some r) :
    Calls Try.prog 34 #[.slice A0 l0.length c0, .int .i64 a1] w fun e w' => e = .returned (.int .i64 r) ∧ Below w.heap.size w w' := by
  unfold laws_heldIntA2S.f at h
  have H' := Aside0.mk (Option.some.inj h)
  have HR0 := Aside0.mk hr0
  clear hr0 h
  go_enter Try.func34, Try.ntmps34
  go_wp2
  go_loopg [5, 1] (l0.length + 1) (fun kq v5 v1 w' => ∃ (m : Nat) (kk : Int), v5 = .int .i64 m ∧ v1 = .int .i64 kk ∧ Aside0 (m ≤ l0.length) ∧ Aside0 (kq = l0.length - m + 1) ∧ Aside0 (held2 (l0.drop m) kk = r) ∧ Aside0 (Below w.heap.size w w'))
  case atStart => exact ⟨0, a1, rfl, rfl, ⟨Nat.zero_le _⟩, ⟨by omega⟩, by rw [List.drop_zero]; exact H', ⟨Below.refl _ _⟩⟩
  case round =>
    clear H'
    obtain ⟨m, kk, rfl, rfl, HM, HK1, HA, HB⟩ := hrel
    have HL := Aside0.mk (HR0.out.2.1)
    by_cases c1 : m < l0.length
    · have p1 : (0 : Int) ≤ (m : Int) := by omega
      have q1 : (m : Int) < (l0.length : Int) := by omega
      obtain ⟨ad, e1, hx0, hx1⟩ := at_T41 HR0.out (m : Int) p1 q1
      cases e1
      replace hx0 := (HB.out.cell (World.block_lt_of_cell? w _ hx0)).trans hx0
      replace hx1 := (HB.out.cell (World.block_lt_of_cell? w _ hx1)).trans hx1
      rw [Int.toNat_natCast] at hx0 hx1
      have H2 : Aside0 (held2 (rd_T41 l0 m :: l0.drop (m + 1)) kk = r) := ⟨by
        rw [← HA.out, List.drop_eq_getElem_cons c1]; congr 1; unfold rd_T41; simp [List.getD_eq_getElem?_getD, List.getElem?_eq_getElem c1]⟩
      clear HA
      have c1b : decide ((m : Int) < (l0.length : Int)) = true := decide_eq_true q1
      have c1c : decide (m < l0.length) = true := decide_eq_true c1
      have hw1 : (m : Int) + 1 ≤ 9223372036854775807 := by have := HL.out; omega
      replace p1 := eq_true p1
      replace q1 := eq_true q1
      clear c1
      by_cases d0 : (rd_T41 l0 m).f0 = kk
      · have d0b : ((rd_T41 l0 m).f0 != kk) = false := bne_eq_false_iff_eq.mpr d0
        by_cases d1 : (rd_T41 l0 m).f1 = wrap64 (kk + 1)
        · have d1b : ((rd_T41 l0 m).f1 != wrap64 (kk + 1)) = false := bne_eq_false_iff_eq.mpr d1
          have H3 : Aside0 (held2 (l0.drop (m + 1)) (wrap64 (wrap64 (kk + 1) + 1)) = r) := ⟨by rw [← H2.out]; simp only [held2]; rw [if_pos d0, if_pos d1]⟩
          clear H2 d0 d1
          go_wp2
          refine wp_loop_rounds 3 ?_
          rw [rounds_succ]; go_wp2
          rw [rounds_succ]; go_wp2
          rw [rounds_succ]; go_wp2
          go_roundg (l0.length - m)
          case measure => have := HK1.out; have := HM.out; omega
          case rel => exact ⟨m + 1, _, by first | rfl | (simp; done) | go_num, rfl, ⟨by have := of_eq_true q1; omega⟩, ⟨by have := of_eq_true q1; omega⟩, H3, ⟨by repeat (first | exact HB.out | apply below_alloc | apply pw_below_drewN | apply below_drew1)⟩⟩
        · have d1b : ((rd_T41 l0 m).f1 != wrap64 (kk + 1)) = true := bne_iff_ne.mpr d1
          have H3 : Aside0 (-1 = r) := ⟨by rw [← H2.out]; simp only [held2]; rw [if_pos d0, if_neg d1]⟩
          clear H2 d0 d1
          go_wp2
          refine wp_loop_rounds 3 ?_
          rw [rounds_succ]; go_wp2
          rw [rounds_succ]; go_wp2
          go_ret
          exact ⟨by have e_ := H3.out; subst e_; rfl, by repeat (first | exact HB.out | apply below_alloc | apply pw_below_drewN | apply below_drew1)⟩
      · have d0b : ((rd_T41 l0 m).f0 != kk) = true := bne_iff_ne.mpr d0
        have H3 : Aside0 (-1 = r) := ⟨by rw [← H2.out]; simp only [held2]; rw [if_neg d0]⟩
        clear H2 d0
        go_wp2
        refine wp_loop_rounds 3 ?_
        rw [rounds_succ]; go_wp2
        go_ret
        exact ⟨by have e_ := H3.out; subst e_; rfl, by repeat (first | exact HB.out | apply below_alloc | apply pw_below_drewN | apply below_drew1)⟩
    · have q1 : ¬ (m : Int) < (l0.length : Int) := by omega
      have c1b : decide ((m : Int) < (l0.length : Int)) = false := decide_eq_false q1
      have c1c : decide (m < l0.length) = false := decide_eq_false c1
      have H3 : Aside0 (kk = r) := ⟨by rw [← HA.out, List.drop_eq_nil_of_le (by omega)]; rfl⟩
      clear HA c1 q1
      go_wp2
      go_ret
      exact ⟨by have e_ := H3.out; subst e_; rfl, by repeat (first | exact HB.out | apply below_alloc | apply pw_below_drewN | apply below_drew1)⟩

end Go.Proofs.Ytihfpngolcjkiaa.P
