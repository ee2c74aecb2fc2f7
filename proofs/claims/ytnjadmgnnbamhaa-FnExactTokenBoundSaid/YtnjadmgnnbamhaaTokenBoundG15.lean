/- impl's TokenBound: what its inner function does: it gives each node of a list to a node of a set, and holds the least sum; for every world. -/
import Derived.Test.YtnjadmgnnbamhaaTokenBoundG14
import Derived.Handy
import Derived.Shelf.Abstract
import Derived.Test.YtnjadmgnnbamhaaTokenBoundG9
import Derived.Test.YtnjadmgnnbamhaaTokenBoundG5
import Derived.Test.YtnjadmgnnbamhaaTokenBoundG12
namespace Go.Proofs.Ytnjadmgnnbamhaa.P
open Go.RowKit Go.Proofs.YtnjadmgnnbamhaaW.PrintWords Go.Proofs.YtnjadmgnnbamhaaW.PrintLast Go.Proofs.YtnjadmgnnbamhaaW.PrintMore
set_option linter.unusedVariables false
set_option linter.unusedSimpArgs false
def bagWo (b y : Int) : Int := Go.bits .andNot .u64 b (shl .u64 1 y)
theorem bagWo_fin : ∀ b : Fin 256, ∀ y : Fin 8, (0 ≤ bagWo b y ∧ bagWo b y < 256) ∧ selI (hasI (bagWo b y)) 8 0 = (selI (hasI b) 8 0).filter (fun z => decide (z ≠ (y : Int))) := by decide +kernel
theorem bagWo_at {b y : Int} (hb : 0 ≤ b ∧ b < 256) (hy : 0 ≤ y ∧ y < 8) : (0 ≤ bagWo b y ∧ bagWo b y < 256) ∧ selI (hasI (bagWo b y)) 8 0 = (selI (hasI b) 8 0).filter (fun z => decide (z ≠ y)) := by
  have h := bagWo_fin ⟨b.toNat, by omega⟩ ⟨y.toNat, by omega⟩
  have e1 : ((⟨b.toNat, by omega⟩ : Fin 256) : Int) = b := by show ((b.toNat : Nat) : Int) = b; omega
  have e2 : ((⟨y.toNat, by omega⟩ : Fin 8) : Int) = y := by show ((y.toNat : Nat) : Int) = y; omega
  rw [e1, e2] at h
  exact h
/-- What the inner function leaves in 'best'. -/
def giveB : List (List Int) → Int → Int → Int → Int
  | [], _, sum, best => if best < 0 ∨ sum < best then sum else best
  | far :: F, b, sum, best => (selI (hasI b) 8 0).foldl (fun bst y => if 0 ≤ rd far y then giveB F (bagWo b y) (sum + rd far y) bst else bst) best
def okGive (F : List (List Int)) (b : Int) : Prop := (0 ≤ b ∧ b < 256) ∧ ∀ far ∈ F, ∀ y ∈ selI (hasI b) 8 0, y < (far.length : Int) ∧ rd far y ≤ 1048576
instance (F : List (List Int)) (b : Int) : Decidable (okGive F b) := by unfold okGive; infer_instance
theorem okGive_next {far : List Int} {F : List (List Int)} {b y : Int} (h : okGive (far :: F) b) (hy : y ∈ selI (hasI b) 8 0) : okGive F (bagWo b y) := by
  have hm := (selI_mem _ _ _ _).1 hy
  have hw := bagWo_at h.1 (y := y) (by omega)
  refine ⟨hw.1, fun f hf z hz => ?_⟩
  rw [hw.2, List.mem_filter] at hz
  exact h.2 f (List.mem_cons_of_mem _ hf) z hz.1
section
variable {P : Program} {ops : Array Oper} {Q : Exit → Act → World → Prop} {md : Region.Mode} {S : World → Prop} {ds : List Nat} {fuel : Nat} {l : Array Bool} {a a' : Act} {w : World} {oi : Oper} {v : Value}
/-- A call of a function value, last in a region that draws its order. -/
theorem zf (i n : Nat) {f p : Nat} {xs_ : Array Operand} {ts : Array TypeId} {lb : Array Value} (args : Array Value) (eg : ∀ (args : Array Value) (w : World), (callFunc f args).run P w = .ok (.enter f args) w) (hv : a.eval (.tmp p) = .func (.func f) #[] lb)
    (h : ∀ K : Act → World → Prop, Shut (∀ a' w', wpAnyLast P md ops Q S ds fuel (l.setIfInBounds i true) a' w' → K a' w') → Calls P f (args ++ lb) w fun e w' => ∃ v, e = .returned v ∧ K (a.put (some n) v) w')
    (hi : ops[i]? = some oi := by exact rfl) (hN : oi.dst = some n := by exact rfl) (hc : readyB md ops l (l.setIfInBounds i true) i = true := by kernel_rfl) (hd : i ∈ ds := by decide)
    (hw : Region.wanted oi (yielded ops a.tmps) = true := by rfl) (hop : oi.op = .call { callee := .value (.tmp p), args := xs_, argTypes := ts } := by exact rfl)
    (hargs : xs_.map a.eval = args := by ((try simp only [List.map_toArray, List.map_cons, List.map_nil]); first | done | rfl)) : wpAnyLast P md ops Q S ds (fuel + 1) l a w := by
  refine last_ (l.setIfInBounds i true) hi hN hc hd (fun K hK => ?_)
  refine call_ f (args ++ lb) hw hN ?_ ?_
  · unfold execOp
    simp [hop, resolve, Deferred.ofValue, invoke, hv, hargs, eg]
  · exact h K hK
end
set_option maxRecDepth 100000 in
set_option maxHeartbeats 4000000 in
theorem give_calls (gA gB gR gG tG : Nat) (n1 : gA ≠ gB) (n2 : gR ≠ gB) (n3 : gG ≠ gB) (z : List (List Int)) (Az : Option Addr) (cz : Nat) (a : List Int) (Aa : Option Addr) (ca : Nat) (hla : a.length ≤ 8) (hcz : z.length ≤ cz) (hca : a.length ≤ ca) (w0 : World) (hgB : w0.heap.size ≤ gB) :
    ∀ (F : List (List Int)) (i : Nat) (b sum best : Int) (W : World), i + F.length = a.length → (∀ (j : Nat) (hj : j < F.length), ∃ ks, impl_spread.f ks z (rd a ((i + j : Nat) : Int)) = some F[j]) → okGive F b → 0 ≤ sum → sum + 1048576 * (F.length : Int) ≤ 16777216 → Below w0.heap.size w0 W →
    (∀ W', KeepBut W W' gB none → Kd.C (Kd.slice 3 (Kd.int .i64)) W' Az z.length z) → (∀ W', KeepBut W W' gB none → Kd.C (Kd.int .i64) W' Aa a.length a) →
    W.heap[gA]? = some (.cells #[.slice Aa a.length ca] 25 (0, 0)) → W.heap[gB]? = some (.cells #[.int .i64 best] 3 (0, 0)) → W.heap[gR]? = some (.cells #[.slice Az z.length cz] 37 (0, 0)) →
    W.heap[gG]? = some (.cells #[.func (.func 18) #[] #[.pointer (some ⟨gA, 0, none⟩), .pointer (some ⟨gB, 0, none⟩), .pointer (some ⟨gR, 0, none⟩), .pointer (some ⟨gG, 0, none⟩)]] tG (0, 0)) →
    Calls Try.prog 18 #[.int .i64 (i : Int), .int .u64 b, .int .i64 sum, .pointer (some ⟨gA, 0, none⟩), .pointer (some ⟨gB, 0, none⟩), .pointer (some ⟨gR, 0, none⟩), .pointer (some ⟨gG, 0, none⟩)] W fun e w' =>
      e = .returned (.tuple #[]) ∧ KeepBut W w' gB none ∧ Below w0.heap.size w0 w' ∧ w'.heap[gB]? = some (.cells #[.int .i64 (giveB F b sum best)] 3 (0, 0)) := by
  intro F
  induction F with
  | nil =>
    intro i b sum best W hi _ _ _ _ hB0 _ _ hA hBx _ _
    have hi2 : i = a.length := by simpa using hi
    subst hi2
    have HB := zM hB0
    have HA := zM hA
    have HX := zM hBx
    have HG := zM hgB
    have hc0 := zy HA 0
    have hc1 := zy HX 0
    have hf1 := blk_frozen HX.out 0
    have HE := zM (show giveB [] b sum best = if best < 0 ∨ sum < best then sum else best from rfl)
    clear hi hB0 hA hBx n1 n2 n3 hgB hla
    by_cases k1 : best < 0 ∨ sum < best
    · have HE2 := zM (show giveB [] b sum best = sum by rw [HE.out, if_pos k1])
      have HP := zM (blk_put (cs' := #[.int .i64 sum]) HX.out 0 (.int .i64 sum) rfl)
      clear HE
      by_cases k2 : best < 0
      · have k3 : decide (best < 0) = true := decide_eq_true k2
        clear k1 k2
        go_enter Try.func18, Try.ntmps18
        go_wp2
        go_returns
        exact ⟨by first | rfl | (simp; done), KeepBut.set_ (KeepBut.refl _ _ _) _ _, below_set HB.out HG.out, by rw [HE2.out]; exact HP.out⟩
      · have k3 : decide (best < 0) = false := decide_eq_false k2
        have k4 : decide (sum < best) = true := decide_eq_true (k1.resolve_left k2)
        clear k1 k2
        go_enter Try.func18, Try.ntmps18
        go_wp2
        go_returns
        exact ⟨by first | rfl | (simp; done), KeepBut.set_ (KeepBut.refl _ _ _) _ _, below_set HB.out HG.out, by rw [HE2.out]; exact HP.out⟩
    · have k2 : decide (best < 0) = false := decide_eq_false (fun h => k1 (.inl h))
      have k3 : decide (sum < best) = false := decide_eq_false (fun h => k1 (.inr h))
      have HE2 := zM (show giveB [] b sum best = best by rw [HE.out, if_neg k1])
      clear k1 HE
      go_enter Try.func18, Try.ntmps18
      go_wp2
      go_returns
      exact ⟨by first | rfl | (simp; done), KeepBut.refl _ _ _, HB.out, by rw [HE2.out]; exact HX.out⟩
  | cons far F ih =>
    intro i b sum best W hi hsp hok hs0 hs1 hB0 hfz hfa hA hBx hR hGx
    have hia : i < a.length := by rw [← hi, List.length_cons]; omega
    obtain ⟨ks, hks⟩ := hsp 0 (by simp)
    rw [Nat.add_zero] at hks
    have hks : impl_spread.f ks z (rd a (i : Int)) = some far := hks
    have HSP := zM hks
    have HSN := zM (fun (j : Nat) (hj : j < F.length) => (show ∃ ks, impl_spread.f ks z (rd a ((i + 1 + j : Nat) : Int)) = some F[j] by
      have := hsp (j + 1) (by simpa using hj)
      rw [show i + (j + 1) = i + 1 + j by omega] at this
      simpa using this))
    have HI := zM hi
    have HOK := zM hok
    have HS0 := zM hs0
    have HS1 := zM (show sum + 1048576 * ((F.length : Int) + 1) ≤ 16777216 by rw [List.length_cons] at hs1; omega)
    have HB := zM hB0
    have HFZ := zM hfz
    have HFA := zM hfa
    have HA := zM hA
    have HX := zM hBx
    have HRX := zM hR
    have HGX := zM hGx
    have HG := zM hgB
    have HIH := zM ih
    have HLB := zM (blk_lt hBx)
    obtain ⟨kl, hkl⟩ := Ev.rounds (bag_list_ev b)
    have HKL := zM hkl
    obtain ⟨ys, hys⟩ : ∃ ys, selI (hasI b) 8 0 = ys := ⟨_, rfl⟩
    rw [hys] at HKL
    have HYL := zM (show ys.length ≤ 8 by rw [← hys]; exact selI_len _ _ _)
    have HYM := zM (fun (y : Int) (hy : y ∈ ys) => (show (0 ≤ y ∧ y < 8) ∧ y < (far.length : Int) ∧ rd far y ≤ 1048576 ∧ okGive F (bagWo b y) by
      rw [← hys] at hy
      have h1 := (selI_mem _ _ _ _).1 hy
      have h2 := hok.2 far (List.mem_cons_self ..) y hy
      exact ⟨by omega, h2.1, h2.2, okGive_next hok hy⟩))
    obtain ⟨gv, hgv⟩ : ∃ g : Int → Int → Int, g = fun bst y => if 0 ≤ rd far y then giveB F (bagWo b y) (sum + rd far y) bst else bst := ⟨_, rfl⟩
    have HGV := zM hgv
    have HE := zM (show giveB (far :: F) b sum best = ys.foldl gv best by rw [← hys, hgv]; rfl)
    have n4 : ((i : Int) == (a.length : Int)) = false := beq_eq_false_iff_ne.mpr (by omega)
    have n5 : decide ((i : Int) = (a.length : Int)) = false := decide_eq_false (by omega)
    have n6 : (i == a.length) = false := beq_eq_false_iff_ne.mpr (by omega)
    have n7 : decide (i = a.length) = false := decide_eq_false (by omega)
    obtain ⟨ad, ea, hxa⟩ := Kd.at_int (hfa W (KeepBut.refl _ _ _)) (i : Int) (by omega) (by omega)
    subst ea
    rw [Int.toNat_natCast] at hxa
    obtain ⟨x, hx⟩ : ∃ x, rd a (i : Int) = x := ⟨_, rfl⟩
    rw [hx] at hxa HSP
    have p1 : ((0 : Int) ≤ (i : Int)) = True := eq_true (by omega)
    have q1 : ((i : Int) < (a.length : Int)) = True := eq_true (by omega)
    have q2 : (i < a.length) = True := eq_true hia
    have hcA := zy HA 0
    have hcR := zy HRX 0
    have HIA := zM hia
    have HK0 := zM (KeepBut.refl W gB none)
    clear hi hsp hok hs0 hs1 hB0 hfz hfa hA hBx hR hGx hgB ih hkl hys hgv hks hia
    go_enter Try.func18, Try.ntmps18
    go_upto_region 3 with (fail)
    (try simp only [Act.put, List.setIfInBounds_toArray, List.set_cons_zero, List.set_cons_succ])
    refine zs (n := 7) (fun w' => w'.cell? ⟨gR, 0, none⟩ = some (.slice Az z.length cz) ∧ w'.cell? ⟨gA, 0, none⟩ = some (.slice (some ad) a.length ca) ∧ w'.cell? (ad.add i) = some (.int .i64 x)) ⟨hcR, hcA, hxa⟩ (fun hHeld => ?_)
    have HB1 := zM (below_drew HB.out)
    have HK1 := zM (KeepBut.of_below (below_drew (Below.refl W.heap.size W)) gB none)
    have HX1 := zM (show W.drew.heap[gB]? = _ from HX.out)
    clear HB hcA hcR hxa
    generalize W.drew = W1 at HB1 HK1 HX1 hHeld ⊢
    refine zl 0 25 hHeld ?_ (hy := by rintro w' ⟨s0, s1, s2⟩; go_simp; with_reducible rfl)
    refine zl 1 26 hHeld ?_ (hy := by rintro w' ⟨s0, s1, s2⟩; go_simp; with_reducible rfl)
    refine zq 2 27 ?_
    refine zq 3 28 ?_
    refine zl 4 29 hHeld ?_ (hy := by rintro w' ⟨s0, s1, s2⟩; go_simp; with_reducible rfl)
    refine zh 5 30 Try.func19 #[.slice Az z.length cz, .int .i64 x] (fun K hK => ?_)
    refine (impl_spread.calls ks Az cz z x far _ (HFZ.out _ HK1.out) hcz HSP.out).mono ?_
    rintro e w3 ⟨vf, rfl, ho, hb⟩
    refine ⟨_, rfl, ?_⟩
    refine hK.out _ _ ⟨pw_cell_below hb hHeld.1, pw_cell_below hb hHeld.2.1, pw_cell_below hb hHeld.2.2⟩ (fun hHeld => ?_)
    have HK := zM (KeepBut.trans HK1.out (KeepBut.of_below hb gB none) (.inl rfl))
    have HB := zM (below_step HB1.out hb)
    have HX3 := zM (blk_below HX1.out hb)
    obtain ⟨Af, cf, ef⟩ := Kd.R_slice ho
    subst ef
    have HFL := zM (Kd.R_reads' ho).2.1
    have HFF := zM (Kd.C_foot_own (g := gB) (Kd.R_mono (Kd.R_bound ho) (ok' := fun k => k ≠ gB) (fun k hk => by have := hk.2.1; have := HLB.out; have := HK1.out.1; omega)) (fun _ h => h))
    clear hK K hb ho HB1 HK1 HX1 HX
    refine zn 30 ?_
    refine zq 6 10 ?_
    refine zx ?_
    clear hHeld
    go_wp2_with (go_at_call 20; refine (impl_bag_list.calls kl b ys _ HKL.out).mono ?_; rintro e w4 ⟨vy, rfl, ho, hb⟩; obtain ⟨Ay, cy, ey⟩ := Kd.R_slice ho; subst ey; have HYF := zM (Kd.C_foot_own (g := gB) (Kd.R_mono (Kd.R_bound ho) (ok' := fun k => k ≠ gB) (fun k hk => by have := hk.2.1; have := HLB.out; have := HK.out.1; omega)) (fun _ h => h)); replace HFF := zM (Kd.C_foot_step HFF.out (KeepBut.of_below hb gB none)); replace HK := zM (KeepBut.trans HK.out (KeepBut.of_below hb gB none) (.inl rfl)); replace HX3 := zM (blk_below HX3.out hb); replace HB := zM (below_step HB.out hb); clear ho hb)
    have HK5 := zM (KeepBut.refl w4 gB none)
    go_loopg [12, 34] (ys.length + 1) (fun kq v12 v34 w' => ∃ (m : Nat) (bst : Int), v34 = .int .i64 (m : Int) ∧ Aside0 (m ≤ ys.length) ∧ Aside0 (ys.length - m + 1 ≤ kq) ∧ Aside0 ((ys.drop m).foldl gv bst = ys.foldl gv best) ∧ Aside0 (KeepBut w4 w' gB none) ∧ Aside0 (Below w0.heap.size w0 w') ∧ Aside0 (w'.heap[gB]? = some (.cells #[.int .i64 bst] 3 (0, 0))))
    case atStart => exact ⟨0, best, rfl, ⟨Nat.zero_le _⟩, ⟨by omega⟩, ⟨by rw [List.drop_zero]⟩, HK5, HB, HX3⟩
    case round =>
      clear HK5 HB HX3
      obtain ⟨m, bst, rfl, HM, HKQ, HFO, HK5, HB, HX3⟩ := hrel
      by_cases c1 : m < ys.length
      · have q3 : (m : Int) < (ys.length : Int) := by omega
        obtain ⟨ady, ey, hxy⟩ := Kd.at_int (HYF.out _ HK5.out) (m : Int) (by omega) q3
        cases ey
        rw [Int.toNat_natCast] at hxy
        have hy0 : rd ys (m : Int) = ys[m] := by simp [rd, List.getD_eq_getElem?_getD, List.getElem?_eq_getElem c1]
        have hyf := HYM.out ys[m] (List.getElem_mem c1)
        have hfo := HFO.out
        rw [List.drop_eq_getElem_cons c1, List.foldl_cons] at hfo
        rw [hy0] at hxy
        generalize ys[m] = y at hxy hyf hfo
        obtain ⟨hy8, hyl, hyd, hyo⟩ := hyf
        obtain ⟨adf, ef, hxf⟩ := Kd.at_int (HFF.out _ HK5.out) y hy8.1 hyl
        cases ef
        obtain ⟨d, hd⟩ : ∃ d, rd far y = d := ⟨_, rfl⟩
        rw [hd] at hxf hyd
        have c1b : decide ((m : Int) < (ys.length : Int)) = true := decide_eq_true q3
        have c1c : decide (m < ys.length) = true := decide_eq_true c1
        have hw1 : (m : Int) + 1 ≤ 9223372036854775807 := by have := HYL.out; omega
        have HC1 := zM c1
        have p3 : ((0 : Int) ≤ (m : Int)) = True := eq_true (by omega)
        replace q3 := eq_true q3
        have p4 : ((0 : Int) ≤ y) = True := eq_true hy8.1
        have q4 : (y < (far.length : Int)) = True := eq_true hyl
        have HY8 := zM hy8
        clear c1 hy0 hy8 hyl
        by_cases k1 : 0 ≤ d
        · have HFO2 := zM (show (ys.drop (m + 1)).foldl gv (giveB F (bagWo b y) (sum + d) bst) = ys.foldl gv best by
            have e : gv bst y = giveB F (bagWo b y) (sum + d) bst := by
              rw [HGV.out]
              show (if 0 ≤ rd far y then giveB F (bagWo b y) (sum + rd far y) bst else bst) = _
              rw [hd, if_pos k1]
            rw [← e]
            exact hfo)
          have k2 : decide (d ≥ 0) = true := decide_eq_true k1
          have k3 : decide (0 ≤ d) = true := decide_eq_true k1
          obtain ⟨I1, hI1⟩ : ∃ I1 : Nat, I1 = i + 1 := ⟨_, rfl⟩
          have e1 : i < 9 ∧ I1 = i + 1 := by have := HIA.out; have := hla; exact ⟨by omega, hI1⟩
          have e2 : -9223372036854775808 ≤ sum + d ∧ sum + d ≤ 9223372036854775807 := by have := HS0.out; have := HS1.out; constructor <;> omega
          have HCL := zM (fun W3 hb0 hfz hfa hA hX hR hG => HIH.out I1 (bagWo b y) (sum + d) bst W3 (by have := HI.out; rw [List.length_cons] at this; omega) (by rw [hI1]; exact HSN.out) hyo (by have := HS0.out; omega) (by have := HS1.out; omega) hb0 hfz hfa hA hX hR hG)
          have w1 : wrap64 ((i : Int) + 1) = (I1 : Int) := by rw [e1.2]; exact wrap_up (m := i) (n := 9) e1.1 (by decide)
          have w2 : wrap64 (sum + d) = sum + d := wrap_nat e2.1 e2.2
          obtain ⟨sh, hsh⟩ : ∃ j_ : Int, shl .u64 1 y = j_ := ⟨_, rfl⟩
          have hsh1 : IntKind.u64.wrap (2 ^ min y.toNat 64) = sh := by rw [← hsh]; unfold shl; rw [Int.one_mul]; rfl
          have hsh2 : IntKind.u64.wrap (1 * 2 ^ min y.toNat 64) = sh := by rw [← hsh]; unfold shl; rfl
          have w3 : sh = shl .u64 1 y := hsh.symm
          have HW3 := zM w3
          clear hsh w3
          clear e1 e2
          have HKW := zM (KeepBut.trans HK.out HK5.out (.inl rfl))
          have HGW := zM ((HKW.out.2 gG (blk_lt HGX.out) n3 (by simp)).trans HGX.out)
          have HAW := zM ((HKW.out.2 gA (blk_lt HA.out) n1 (by simp)).trans HA.out)
          have HRW := zM ((HKW.out.2 gR (blk_lt HRX.out) n2 (by simp)).trans HRX.out)
          have hcG := zy HGW 0
          clear hfo hd hyo hyd
          go_upto_region 8 with (fail)
          (try simp only [Act.put, List.setIfInBounds_toArray, List.set_cons_zero, List.set_cons_succ])
          refine start_ (ds := [13]) (S := fun w' => w'.cell? ⟨gG, 0, none⟩ = some (.func (.func 18) #[] #[.pointer (some ⟨gA, 0, none⟩), .pointer (some ⟨gB, 0, none⟩), .pointer (some ⟨gR, 0, none⟩), .pointer (some ⟨gG, 0, none⟩)]) ∧ w'.cell? (adf.add y.toNat) = some (.int .i64 d)) (n := 14) (Array.replicate 14 false) (by kernel_rfl) (by exact rfl) rfl ⟨hcG, hxf⟩ (fun hHeld => ?_)
          have HB8 := zM (below_drew HB.out)
          have HKd := zM (KeepBut.of_below (below_drew (Below.refl wr.heap.size wr)) gB none)
          have HX8 := zM (show wr.drew.heap[gB]? = _ from HX3.out)
          have HA8 := zM (show wr.drew.heap[gA]? = _ from HAW.out)
          have HR8 := zM (show wr.drew.heap[gR]? = _ from HRW.out)
          have HG8 := zM (show wr.drew.heap[gG]? = _ from HGW.out)
          clear HB HX3 HAW HRW HGW hcG hxf hxy
          generalize wr.drew = W8 at HB8 HKd HX8 HA8 HR8 HG8 hHeld ⊢
          refine zl 0 43 hHeld ?_ (hy := by rintro w' ⟨s0, s1⟩; go_simp; with_reducible rfl)
          refine zq 1 44 ?_
          refine zq 2 45 ?_
          refine zq 3 46 ?_
          refine zq 4 47 ?_
          refine zq 5 48 ?_
          refine zq 6 49 ?_
          refine zq 7 50 ?_
          refine zq 8 51 ?_
          refine zq 9 52 ?_
          refine zq 10 53 ?_
          refine zl 11 54 hHeld ?_ (hy := by rintro w' ⟨s0, s1⟩; go_simp; with_reducible rfl)
          refine zq 12 55 ?_
          refine zf 13 56 (p := 43) #[.int .i64 (wrap64 ((i : Int) + 1)), .int .u64 (Go.bits .andNot .u64 b sh), .int .i64 (wrap64 (sum + d))] (enters_of Try.func18 (by kernel_rfl) rfl) rfl (fun K hK => ?_)
          show Calls Try.prog 18 #[.int .i64 (wrap64 ((i : Int) + 1)), .int .u64 (Go.bits .andNot .u64 b sh), .int .i64 (wrap64 (sum + d)), .pointer (some ⟨gA, 0, none⟩), .pointer (some ⟨gB, 0, none⟩), .pointer (some ⟨gR, 0, none⟩), .pointer (some ⟨gG, 0, none⟩)] W8 _
          rw [w1, w2, HW3.out]
          refine (HCL.out W8 HB8.out (Kd.C_foot_step HFZ.out (KeepBut.trans HKW.out HKd.out (.inl rfl))) (Kd.C_foot_step HFA.out (KeepBut.trans HKW.out HKd.out (.inl rfl))) HA8.out HX8.out HR8.out HG8.out).mono ?_
          rintro e w9 ⟨rfl, hk, hb, hx⟩
          refine ⟨_, rfl, ?_⟩
          refine hK.out _ _ ?_
          have HK9 := zM (KeepBut.trans HK5.out (KeepBut.trans HKd.out hk (.inl rfl)) (.inl rfl))
          have HB9 := zM hb
          have HX9 := zM hx
          clear hK K hk hb hx HB8 HKd HX8 HA8 HR8 HG8 hHeld
          refine zn 56 ?_
          refine zx ?_
          go_wp2
          go_roundg (ys.length - m)
          case measure => have := HKQ.out; have := HC1.out; omega
          case rel => exact ⟨m + 1, _, by first | rfl | (simp; done) | go_num, ⟨by have := HC1.out; omega⟩, ⟨by have := HC1.out; omega⟩, HFO2, HK9, HB9, HX9⟩
        · have HFO2 := zM (show (ys.drop (m + 1)).foldl gv bst = ys.foldl gv best by
            have e : gv bst y = bst := by
              rw [HGV.out]
              show (if 0 ≤ rd far y then giveB F (bagWo b y) (sum + rd far y) bst else bst) = _
              rw [hd, if_neg k1]
            rw [e] at hfo
            exact hfo)
          have k2 : decide (d ≥ 0) = false := decide_eq_false k1
          have k3 : decide (0 ≤ d) = false := decide_eq_false k1
          clear hfo hd hyo hyd k1
          go_wp2
          go_roundg (ys.length - m)
          case measure => have := HKQ.out; have := HC1.out; omega
          case rel => exact ⟨m + 1, bst, by first | rfl | (simp; done) | go_num, ⟨by have := HC1.out; omega⟩, ⟨by have := HC1.out; omega⟩, HFO2, HK5, HB, HX3⟩
      · have c1b : decide ((m : Int) < (ys.length : Int)) = false := decide_eq_false (by omega)
        have c1c : decide (m < ys.length) = false := decide_eq_false c1
        have HE2 := zM (show giveB (far :: F) b sum best = bst by
          have h1 := HFO.out
          rw [List.drop_eq_nil_of_le (by omega)] at h1
          rw [HE.out, ← h1]; rfl)
        have HKF := zM (KeepBut.trans HK.out HK5.out (.inl rfl))
        clear c1
        go_wp2
        go_returns
        exact ⟨by first | rfl | (simp; done), HKF.out, HB.out, by rw [HE2.out]; exact HX3.out⟩
end Go.Proofs.Ytnjadmgnnbamhaa.P
namespace Go.Proofs.Ytnjadmgnnbamhaa.P
open Go.RowKit Go.Proofs.YtnjadmgnnbamhaaW.PrintWords Go.Proofs.YtnjadmgnnbamhaaW.PrintLast Go.Proofs.YtnjadmgnnbamhaaW.PrintMore
set_option linter.unusedVariables false
set_option linter.unusedSimpArgs false
/-- The distances from each node of a list. -/
def farsF (k : Nat) (z : List (List Int)) : List Int → Option (List (List Int))
  | [] => some []
  | x :: r => (impl_spread.f k z x).bind fun f => (farsF k z r).bind fun F => some (f :: F)
theorem farsF_at (k : Nat) (z : List (List Int)) : ∀ (a : List Int) (F : List (List Int)), farsF k z a = some F → F.length = a.length ∧ ∀ (j : Nat) (hj : j < F.length), impl_spread.f k z (rd a (j : Int)) = some F[j]
  | [], F, h => by
    obtain rfl := Option.some.inj h
    exact ⟨rfl, fun j hj => absurd hj (by simp)⟩
  | x :: r, F, h => by
    obtain ⟨f, hf, h⟩ := Option.bind_eq_some_iff.mp h
    obtain ⟨F2, hF, h⟩ := Option.bind_eq_some_iff.mp h
    obtain rfl := Option.some.inj h
    obtain ⟨h1, h2⟩ := farsF_at k z r F2 hF
    refine ⟨by simp [h1], fun j hj => ?_⟩
    cases j with
    | zero => exact hf
    | succ j =>
      have := h2 j (by simpa using hj)
      have e : rd (x :: r) ((j + 1 : Nat) : Int) = rd r (j : Int) := by simp [rd]
      rw [e]
      exact this
def impl_TokenBound.f (k : Nat) (a0_0 : Int) (l0_1 : List S50) (l1 l2 : List Int) : Option (Int × Bool) :=
  (impl_twoSets.f k a0_0 l0_1 l1 l2).bind fun t => if t = true then (if l1.length = l2.length then ((impl_Graph_roads.f k a0_0 l0_1).bind fun z => (impl_bagOf.f k l2).bind fun b => (farsF k z l1).bind fun F => if okGive F b ∧ l1.length ≤ 8 then some (mx (giveB F b 0 (-1)) 0, decide (0 ≤ giveB F b 0 (-1))) else none) else some (0, false)) else some (0, false)
section
variable {ops : Array Oper} {rest : List Oper} {o : Oper} {a : Act} {Q : Exit → Act → World → Prop} {W : World}
/-- A store into a variable's block of one cell. -/
theorem box_store {g t : Nat} {v0 : Value} (ty : TypeId) (p : Tmp) (x : Operand) (v : Value) (hb : W.heap[g]? = some (.cells #[v0] t (0, 0))) (ho : o.op = .store ty (.tmp p) x) (hN : o.dst = none) (hgd : o.guard = none) (haddr : a.eval (.tmp p) = .pointer (some ⟨g, 0, none⟩)) (hx : a.eval x = v)
    (hvc : v.cells.toList = [v]) (hv1 : v.oneCell' = true) (hti : (Try.prog.info? ty).map (·.size) = some 1)
    (h : ∀ w1, w1.heap[g]? = some (.cells #[v] t (0, 0)) → KeepBut W w1 g none → (∀ (w0 : World), w0.heap.size ≤ g → Below w0.heap.size w0 W → Below w0.heap.size w0 w1) → wpList Try.prog ops Q rest a w1) : wpList Try.prog ops Q (o :: rest) a W := by
  have hrun := run_store_run (P := Try.prog) (o := 0) ty v [v] hb hvc hti (by simp) (fun q hq => by rw [List.mem_singleton.1 hq]; exact hv1)
  have e : W.setCells g 0 [v] = W.setCell ⟨g, 0, none⟩ v := rfl
  rw [e] at hrun
  refine store_event hgd ho hN (w1 := W.setCell ⟨g, 0, none⟩ v) ?_ ?_
  · simp [execOp, ho, haddr, hx, hrun]
  · rintro w' rfl
    exact h _ (blk_put hb 0 v rfl) (KeepBut.set_ (KeepBut.refl _ _ _) _ _) (fun w0 hg hB => below_set hB hg)
end
set_option maxRecDepth 100000 in
set_option maxHeartbeats 4000000 in
theorem impl_TokenBound.calls (k : Nat) (a0_0 : Int) (A0_1 : Option Addr) (c0_1 : Nat) (l0_1 : List (S50)) (A1 : Option Addr) (c1 : Nat) (l1 : List Int) (A2 : Option Addr) (c2 : Nat) (l2 : List Int) (r1 : Int) (r2 : Bool) (w : World) (hr0_1 : Kd.C k50 w A0_1 l0_1.length l0_1) (hc0_1 : l0_1.length ≤ c0_1) (hr1 : Kd.C (Kd.int .i64) w A1 l1.length l1) (hc1 : l1.length ≤ c1) (hr2 : Kd.C (Kd.int .i64) w A2 l2.length l2) (hc2 : l2.length ≤ c2) (h : impl_TokenBound.f k a0_0 l0_1 l1 l2 = some (r1, r2)) :
    Calls Try.prog 8 #[.agg #[.int .i64 a0_0, .slice A0_1 l0_1.length c0_1], .slice A1 l1.length c1, .slice A2 l2.length c2] w fun e w' => e = .returned (.tuple #[.int .i64 r1, .bool r2]) ∧ Below w.heap.size w w' := by
  have hu := Try.underlying29
  unfold impl_TokenBound.f at h
  obtain ⟨t, ht, h⟩ := Option.bind_eq_some_iff.mp h
  have HR := zM hr0_1
  have HC := zM hc0_1
  have HR1 := zM hr1
  have HC1 := zM hc1
  have HR2 := zM hr2
  have HC2 := zM hc2
  have HT := zM ht
  have HB := zM (Below.refl w.heap.size w)
  clear hr0_1 hc0_1 hr1 hc1 hr2 hc2 ht
  by_cases hc : t = true ∧ l1.length = l2.length
  case neg =>
    have hres : r1 = 0 ∧ r2 = false := by
      cases t with
      | false => simp only [Bool.false_eq_true, if_false, Option.some.injEq, Prod.mk.injEq] at h; exact ⟨h.1.symm, h.2.symm⟩
      | true =>
        rw [if_pos rfl, if_neg (fun e => hc ⟨rfl, e⟩)] at h
        simp only [Option.some.injEq, Prod.mk.injEq] at h
        exact ⟨h.1.symm, h.2.symm⟩
    obtain ⟨rfl, rfl⟩ := hres
    clear h
    cases t with
    | false =>
      clear hc
      go_enter Try.func8, Try.ntmps8
      go_wp2_with (first
        | ((with_reducible refine gate_dst (N := 3) rfl ?_); refine ze 3 #[.int .i64 a0_0, .slice A0_1 l0_1.length c0_1] 29 ?_; intro g3 hg w1 hbox hb; have BK3 := zM hbox; replace HB := zM (below_step HB.out hb); clear hg hbox hb; have hd0 := zy BK3 0; have hd1 := zy BK3 1)
        | ((with_reducible refine gate_dst (N := 4) rfl ?_); refine ze 4 #[.slice A1 l1.length c1] 25 ?_; intro g4 hg w2 hbox hb; have BK4 := zM hbox; have HG4 := zM (show w.heap.size ≤ g4 by rw [hg]; exact below_size HB.out); replace HB := zM (below_step HB.out hb); replace BK3 := zM (blk_below BK3.out hb); clear hg hbox hb hd0 hd1; have hd0 := zy BK3 0; have hd1 := zy BK3 1; have hd4 := zy BK4 0)
        | (go_at_call 16; refine (impl_twoSets.calls k a0_0 A0_1 c0_1 l0_1 A1 c1 l1 A2 c2 l2 _ _ (Kd.C_below HR.out HB.out) HC.out (Kd.C_below HR1.out HB.out) HC1.out (Kd.C_below HR2.out HB.out) HC2.out HT.out).mono ?_; rintro e w3 ⟨rfl, hb⟩; replace HB := zM (below_step HB.out hb); replace BK3 := zM (blk_below BK3.out hb); replace BK4 := zM (blk_below BK4.out hb); clear hb hd0 hd1 hd4; have hd0 := zy BK3 0; have hd1 := zy BK3 1; have hd4 := zy BK4 0))
      go_ret2
      exact ⟨rfl, HB.out⟩
    | true =>
      have n1 : ((l1.length : Int) != (l2.length : Int)) = true := bne_iff_ne.mpr (fun e => hc ⟨rfl, by omega⟩)
      have n2 : ((l1.length : Int) == (l2.length : Int)) = false := beq_eq_false_iff_ne.mpr (fun e => hc ⟨rfl, by omega⟩)
      have n3 : (l1.length == l2.length) = false := beq_eq_false_iff_ne.mpr (fun e => hc ⟨rfl, e⟩)
      have n4 : (l1.length != l2.length) = true := bne_iff_ne.mpr (fun e => hc ⟨rfl, e⟩)
      clear hc
      go_enter Try.func8, Try.ntmps8
      go_wp2_with (first
        | ((with_reducible refine gate_dst (N := 3) rfl ?_); refine ze 3 #[.int .i64 a0_0, .slice A0_1 l0_1.length c0_1] 29 ?_; intro g3 hg w1 hbox hb; have BK3 := zM hbox; replace HB := zM (below_step HB.out hb); clear hg hbox hb; have hd0 := zy BK3 0; have hd1 := zy BK3 1)
        | ((with_reducible refine gate_dst (N := 4) rfl ?_); refine ze 4 #[.slice A1 l1.length c1] 25 ?_; intro g4 hg w2 hbox hb; have BK4 := zM hbox; have HG4 := zM (show w.heap.size ≤ g4 by rw [hg]; exact below_size HB.out); replace HB := zM (below_step HB.out hb); replace BK3 := zM (blk_below BK3.out hb); clear hg hbox hb hd0 hd1; have hd0 := zy BK3 0; have hd1 := zy BK3 1; have hd4 := zy BK4 0)
        | (go_at_call 16; refine (impl_twoSets.calls k a0_0 A0_1 c0_1 l0_1 A1 c1 l1 A2 c2 l2 _ _ (Kd.C_below HR.out HB.out) HC.out (Kd.C_below HR1.out HB.out) HC1.out (Kd.C_below HR2.out HB.out) HC2.out HT.out).mono ?_; rintro e w3 ⟨rfl, hb⟩; replace HB := zM (below_step HB.out hb); replace BK3 := zM (blk_below BK3.out hb); replace BK4 := zM (blk_below BK4.out hb); clear hb hd0 hd1 hd4; have hd0 := zy BK3 0; have hd1 := zy BK3 1; have hd4 := zy BK4 0))
      go_ret2
      exact ⟨rfl, HB.out⟩
  obtain ⟨rfl, hlen⟩ := hc
  rw [if_pos rfl, if_pos hlen] at h
  obtain ⟨z, hz, h⟩ := Option.bind_eq_some_iff.mp h
  obtain ⟨b, hb, h⟩ := Option.bind_eq_some_iff.mp h
  obtain ⟨F, hF, h⟩ := Option.bind_eq_some_iff.mp h
  by_cases hok : okGive F b ∧ l1.length ≤ 8
  case neg => rw [if_neg hok] at h; cases h
  rw [if_pos hok] at h
  simp only [Option.some.injEq, Prod.mk.injEq] at h
  obtain ⟨h1, h2⟩ := h
  have HZ := zM hz
  have HBG := zM hb
  have HFA := zM (farsF_at k z l1 F hF)
  have HOK := zM hok.1
  have HL8 := zM hok.2
  obtain ⟨bst, hbst⟩ : ∃ v, giveB F b 0 (-1) = v := ⟨_, rfl⟩
  rw [hbst] at h1 h2
  have HBST := zM hbst
  have HE1 := zM h1
  have HE2 := zM h2
  obtain ⟨N1, hN1⟩ : ∃ N, l1.length = N := ⟨_, rfl⟩
  have n1 : ((l1.length : Int) != (l2.length : Int)) = false := by rw [hlen]; simp
  have n2 : ((l1.length : Int) == (l2.length : Int)) = true := by rw [hlen]; simp
  have n3 : (l1.length == l2.length) = true := by rw [hlen]; simp
  have n4 : (l1.length != l2.length) = false := by rw [hlen]; simp
  clear hz hb hF hok h1 h2 hbst hlen hN1
  go_enter Try.func8, Try.ntmps8
  go_upto_region 6 with (first
    | ((with_reducible refine gate_dst (N := 3) rfl ?_); refine ze 3 #[.int .i64 a0_0, .slice A0_1 l0_1.length c0_1] 29 ?_; intro g3 hg w1 hbox hb; have BK3 := zM hbox; replace HB := zM (below_step HB.out hb); clear hg hbox hb; have hd0 := zy BK3 0; have hd1 := zy BK3 1)
    | ((with_reducible refine gate_dst (N := 4) rfl ?_); refine ze 4 #[.slice A1 l1.length c1] 25 ?_; intro g4 hg w2 hbox hb; have BK4 := zM hbox; have HG4 := zM (show w.heap.size ≤ g4 by rw [hg]; exact below_size HB.out); replace HB := zM (below_step HB.out hb); replace BK3 := zM (blk_below BK3.out hb); clear hg hbox hb hd0 hd1; have hd0 := zy BK3 0; have hd1 := zy BK3 1; have hd4 := zy BK4 0)
    | (go_at_call 16; refine (impl_twoSets.calls k a0_0 A0_1 c0_1 l0_1 A1 c1 l1 A2 c2 l2 _ _ (Kd.C_below HR.out HB.out) HC.out (Kd.C_below HR1.out HB.out) HC1.out (Kd.C_below HR2.out HB.out) HC2.out HT.out).mono ?_; rintro e w3 ⟨rfl, hb⟩; replace HB := zM (below_step HB.out hb); replace BK3 := zM (blk_below BK3.out hb); replace BK4 := zM (blk_below BK4.out hb); clear hb hd0 hd1 hd4; have hd0 := zy BK3 0; have hd1 := zy BK3 1; have hd4 := zy BK4 0)
    | (go_at_call 17; refine (impl_Graph_roads.calls k a0_0 A0_1 c0_1 l0_1 z _ (Kd.C_below HR.out HB.out) HC.out HZ.out).mono ?_; rintro e wz ⟨vz, rfl, ho, hb⟩; obtain ⟨Az, cz, ez⟩ := Kd.S_slice ho; subst ez; have HZC := zM (Kd.S_reads' ho).2; have HB3 := zM (Below.refl wz.heap.size wz); replace HB := zM (below_step HB.out hb); replace BK4 := zM (blk_below BK4.out hb); have HL4 := zM (blk_lt BK4.out); clear ho hb hd0 hd1 hd4 BK3)
    | ((with_reducible refine gate_dst (N := 8) rfl ?_); refine ze 8 #[.slice none 0 0] 37 ?_; intro g8 hg w4 hbox hb; have BK8 := zM hbox; have HG8 := zM (show wz.heap.size ≤ g8 by rw [hg]; exact below_size HB3.out); replace HB := zM (below_step HB.out hb); replace HB3 := zM (below_step HB3.out hb); replace BK4 := zM (blk_below BK4.out hb); clear hg hbox hb)
    | ((with_reducible refine gate_dst (N := 9) rfl ?_); refine ze 9 #[.int .i64 0] 3 ?_; intro g9 hg w5 hbox hb; have BK9 := zM hbox; have HG9 := zM (show wz.heap.size ≤ g9 ∧ g8 < g9 by rw [hg]; exact ⟨below_size HB3.out, blk_lt BK8.out⟩); replace HB := zM (below_step HB.out hb); replace HB3 := zM (below_step HB3.out hb); replace BK4 := zM (blk_below BK4.out hb); replace BK8 := zM (blk_below BK8.out hb); clear hg hbox hb)
    | ((with_reducible refine gate_ (.store 37 (.tmp 8) (.tmp 24)) rfl ?_); refine box_store 37 8 (.tmp 24) (.slice Az z.length cz) BK8.out rfl rfl rfl rfl rfl rfl rfl (by kernel_rfl) ?_; intro w6 hx hk hbl; replace BK8 := zM hx; replace BK4 := zM ((hk.2 g4 (blk_lt BK4.out) (by have := HL4.out; have := HG8.out; omega) (by simp)).trans BK4.out); replace BK9 := zM ((hk.2 g9 (blk_lt BK9.out) (by have := HG9.out.2; omega) (by simp)).trans BK9.out); replace HB3 := zM (hbl _ HG8.out HB3.out); replace HB := zM (hbl _ (by have := HL4.out; have := HG4.out; have := HG8.out; omega) HB.out); clear hx hk hbl)
    | ((with_reducible refine gate_ (.store 3 (.tmp 9) (.const (.int .i64 (-1)))) rfl ?_); refine box_store 3 9 (.const (.int .i64 (-1))) (.int .i64 (-1)) BK9.out rfl rfl rfl rfl rfl rfl rfl (by kernel_rfl) ?_; intro w7 hx hk hbl; replace BK9 := zM hx; replace BK4 := zM ((hk.2 g4 (blk_lt BK4.out) (by have := HL4.out; have := HG9.out.1; omega) (by simp)).trans BK4.out); replace BK8 := zM ((hk.2 g8 (blk_lt BK8.out) (by have := HG9.out.2; omega) (by simp)).trans BK8.out); replace HB3 := zM (hbl _ HG9.out.1 HB3.out); replace HB := zM (hbl _ (by have := HL4.out; have := HG4.out; have := HG9.out.1; omega) HB.out); clear hx hk hbl)
    | ((with_reducible refine gate_dst (N := 10) rfl ?_); refine ze 10 #[.nilFunc] 42 ?_; intro g10 hg w8 hbox hb; have BK10 := zM hbox; have HG10 := zM (show wz.heap.size ≤ g10 ∧ g9 < g10 by rw [hg]; exact ⟨below_size HB3.out, blk_lt BK9.out⟩); replace HB := zM (below_step HB.out hb); replace HB3 := zM (below_step HB3.out hb); replace BK4 := zM (blk_below BK4.out hb); replace BK8 := zM (blk_below BK8.out hb); replace BK9 := zM (blk_below BK9.out hb); clear hg hbox hb)
    | ((with_reducible refine gate_ (.store 42 (.tmp 10) (.tmp 25)) rfl ?_); refine box_store 42 10 (.tmp 25) (.func (.func 18) #[] #[.pointer (some ⟨g4, 0, none⟩), .pointer (some ⟨g9, 0, none⟩), .pointer (some ⟨g8, 0, none⟩), .pointer (some ⟨g10, 0, none⟩)]) BK10.out rfl rfl rfl rfl rfl rfl rfl (by kernel_rfl) ?_; intro w9 hx hk hbl; replace BK10 := zM hx; replace BK4 := zM ((hk.2 g4 (blk_lt BK4.out) (by have := HL4.out; have := HG10.out.1; omega) (by simp)).trans BK4.out); replace BK8 := zM ((hk.2 g8 (blk_lt BK8.out) (by have := HG10.out.2; have := HG9.out.2; omega) (by simp)).trans BK8.out); replace BK9 := zM ((hk.2 g9 (blk_lt BK9.out) (by have := HG10.out.2; omega) (by simp)).trans BK9.out); replace HB3 := zM (hbl _ HG10.out.1 HB3.out); replace HB := zM (hbl _ (by have := HL4.out; have := HG4.out; have := HG10.out.1; omega) HB.out); clear hx hk hbl))
  have hcF := zy BK10 0
  obtain ⟨mv, hmv⟩ : ∃ v, mx bst 0 = v := ⟨_, rfl⟩
  have hmv1 : (if bst < 0 then 0 else bst) = mv := hmv
  have HMV := zM hmv
  clear hmv
  (try simp only [Act.put, List.setIfInBounds_toArray, List.set_cons_zero, List.set_cons_succ])
  refine start_ (ds := [3]) (S := fun w' => w'.cell? ⟨g10, 0, none⟩ = some (.func (.func 18) #[] #[.pointer (some ⟨g4, 0, none⟩), .pointer (some ⟨g9, 0, none⟩), .pointer (some ⟨g8, 0, none⟩), .pointer (some ⟨g10, 0, none⟩)])) (n := 4) (Array.replicate 4 false) (by kernel_rfl) (by exact rfl) rfl hcF (fun hHeld => ?_)
  have HBd := zM (below_drew HB.out)
  have HB3d := zM (below_drew HB3.out)
  have BK4d := zM (show (World.drew _).heap[g4]? = _ from BK4.out)
  have BK8d := zM (show (World.drew _).heap[g8]? = _ from BK8.out)
  have BK9d := zM (show (World.drew _).heap[g9]? = _ from BK9.out)
  have BK10d := zM (show (World.drew _).heap[g10]? = _ from BK10.out)
  clear HB HB3 BK4 BK8 BK9 BK10 hcF
  generalize World.drew _ = W1 at HBd HB3d BK4d BK8d BK9d BK10d hHeld ⊢
  refine zl 0 26 hHeld ?_ (hy := by rintro w' s0; go_simp; with_reducible rfl)
  refine zq 1 27 ?_
  refine zh 2 28 Try.func21 #[.slice A2 l2.length c2] (fun K hK => ?_)
  refine (impl_bagOf.calls k A2 c2 l2 b _ (Kd.C_below HR2.out HBd.out) HC2.out HBG.out).mono ?_
  rintro e w11 ⟨rfl, hd⟩
  have hb := Drawn0.below hd
  refine ⟨_, rfl, ?_⟩
  refine hK.out _ _ (pw_cell_below hb hHeld) (fun hHeld => ?_)
  have HB := zM (below_step HBd.out hb)
  have HB3 := zM (below_step HB3d.out hb)
  have BK4 := zM (blk_below BK4d.out hb)
  have BK8 := zM (blk_below BK8d.out hb)
  have BK9 := zM (blk_below BK9d.out hb)
  have BK10 := zM (blk_below BK10d.out hb)
  have hg9 : w.heap.size ≤ g9 := by have := HL4.out; have := HG4.out; have := HG9.out.1; omega
  have hn1 : g4 ≠ g9 := by have := HL4.out; have := HG9.out.1; omega
  have hn2 : g8 ≠ g9 := by have := HG9.out.2; omega
  have hn3 : g10 ≠ g9 := by have := HG10.out.2; omega
  have hF8 : (0 : Int) + 1048576 * (F.length : Int) ≤ 16777216 := by have := HFA.out.1; have := HL8.out; omega
  clear hK K hd hb HBd HB3d BK4d BK8d BK9d BK10d
  refine zn 28 ?_
  refine zf 3 29 (p := 26) #[.int .i64 0, .int .u64 b, .int .i64 0] (enters_of Try.func18 (by kernel_rfl) rfl) rfl (fun K hK => ?_)
  show Calls Try.prog 18 #[.int .i64 ((0 : Nat) : Int), .int .u64 b, .int .i64 0, .pointer (some ⟨g4, 0, none⟩), .pointer (some ⟨g9, 0, none⟩), .pointer (some ⟨g8, 0, none⟩), .pointer (some ⟨g10, 0, none⟩)] w11 _
  refine (give_calls g4 g9 g8 g10 _ hn1 hn2 hn3 z Az cz l1 A1 c1 HL8.out HZC.out.1 HC1.out w hg9 F 0 b 0 (-1) w11 (by rw [Nat.zero_add]; exact HFA.out.1) (fun j hj => ⟨k, by rw [Nat.zero_add]; exact HFA.out.2 j hj⟩) HOK.out (Int.le_refl 0) hF8 HB.out (Kd.C_foot_came (Kd.heap_slice _ (Kd.heap_int _)) HZC.out.2 HB3.out HG9.out.1) (Kd.C_foot_came (Kd.heap_int _) HR1.out HB.out hg9) BK4.out BK9.out BK8.out BK10.out).mono ?_
  rintro e w12 ⟨rfl, hk, hb, hx⟩
  refine ⟨_, rfl, ?_⟩
  refine hK.out _ _ ?_
  rw [HBST.out] at hx
  have HB12 := zM hb
  have BX := zM hx
  clear hK K hk hb hx HB HB3 BK4 BK8 BK9 BK10 hHeld hg9 hn1 hn2 hn3 hF8
  refine zn 29 ?_
  refine zx ?_
  go_upto_region 7 with (fail)
  (try simp only [Act.put, List.setIfInBounds_toArray, List.set_cons_zero, List.set_cons_succ])
  refine zs (n := 6) (fun w' => w'.cell? ⟨g9, 0, none⟩ = some (.int .i64 bst)) (zy BX 0) (fun hHeld => ?_)
  have HB := zM (below_drew HB12.out)
  clear HB12 BX
  generalize World.drew _ = W2 at HB hHeld ⊢
  refine zl 0 30 hHeld ?_ (hy := by rintro w' s0; go_simp; with_reducible rfl)
  refine zq 1 31 ?_
  refine zl 2 32 hHeld ?_ (hy := by rintro w' s0; go_simp; with_reducible rfl)
  refine zq 3 33 ?_
  refine zq 4 6 ?_
  refine zq 5 7 ?_
  refine zx ?_
  (try go_wp2)
  go_ret2
  refine ⟨?_, HB.out⟩
  have hm : max bst 0 = mv := by
    rw [← HMV.out]
    unfold mx
    rw [Int.max_def]
    split <;> split <;> omega
  rw [← HE1.out, ← HE2.out, HMV.out]
  first | rfl | (simp [hm]; done)
end Go.Proofs.Ytnjadmgnnbamhaa.P
namespace Go.Proofs.Ytnjadmgnnbamhaa.P
open Go.RowKit Go.Proofs.YtnjadmgnnbamhaaW.PrintWords Go.Proofs.YtnjadmgnnbamhaaW.PrintLast Go.Proofs.YtnjadmgnnbamhaaW.PrintMore
set_option linter.unusedVariables false
section
variable {α : Type} {d : Kd α} {e base : Nat} {ok S : Nat → Prop} {w W W1 : World} {v : Value} {xs : List α} {g : Nat} {o : Obj}
theorem uR (hB : Below w.heap.size w W) (h : d.R e W1 W.heap.size (fun _ => True) v xs) : Aside0 (d.R e W1 w.heap.size (fun k => W.heap.size ≤ k ∧ k < W1.heap.size) v xs) :=
  ⟨Kd.R_mono (Kd.R_lower (Kd.R_bound h) (below_size hB)) (fun k hk => ⟨hk.2.1, hk.2.2.1⟩)⟩
theorem uRb (h : Aside0 (d.R e W base ok v xs)) (hb : Below W.heap.size W W1) : Aside0 (d.R e W1 base ok v xs) := ⟨Kd.R_below h.out hb⟩
theorem uKb (h : Aside0 (W.heap[g]? = some o)) (hb : Below W.heap.size W W1) : Aside0 (W1.heap[g]? = some o) := ⟨blk_below h.out hb⟩
theorem uRk (h : Aside0 (d.R e W base ok v xs)) (hk : Kept W W1 S) (hne : ∀ k, ok k → ¬ S k) : Aside0 (d.R e W1 base ok v xs) := ⟨Kd.R_kept h.out hk hne⟩
theorem uKk (h : Aside0 (W.heap[g]? = some o)) (hk : Kept W W1 S) (hne : ¬ S g) : Aside0 (W1.heap[g]? = some o) := ⟨blk_kept h.out hk hne⟩
/-- A struct of two cells is stored into the call's own block. -/
theorem uBox {P : Program} {f : FuncId} {args : Array Value} {Q : Ending → World → Prop} {t : TypeId} {x y a b : Value} (hb : Aside0 (W.heap[g]? = some (.cells #[x, y] t (0, 0)))) (hB : Aside0 (Below w.heap.size w W)) (hg : w.heap.size ≤ g)
    (h : ∀ W', Aside0 (W'.heap[g]? = some (.cells #[a, b] t (0, 0))) → Kept W W' (fun k => k = g) → Aside0 (Below w.heap.size w W') → Calls P f args W' Q) : Calls P f args ((W.setCell ⟨g, 0, none⟩ a).setCell ⟨g, 1, none⟩ b) Q :=
  h _ ⟨blk_put (cs := #[a, y]) (blk_put (cs := #[x, y]) hb.out 0 a rfl) 1 b rfl⟩ (Kept.setCell (Kept.setCell (Kept.refl W (fun k => k = g)) (p := ⟨g, 0, none⟩) (.inl rfl) a) (p := ⟨g, 1, none⟩) (.inl rfl) b) ⟨below_set (below_set hB.out hg) hg⟩
end
end Go.Proofs.Ytnjadmgnnbamhaa.P
namespace Go.Proofs.Ytnjadmgnnbamhaa.P
open Go.RowKit Go.Proofs.YtnjadmgnnbamhaaW.PrintWords Go.Proofs.YtnjadmgnnbamhaaW.PrintLast Go.Proofs.YtnjadmgnnbamhaaW.PrintMore
set_option linter.unusedVariables false
set_option linter.unusedSimpArgs false
set_option maxRecDepth 100000 in
set_option maxHeartbeats 4000000 in
theorem laws_FnExactTokenBound.exit0 (a0_0 : Int) (A0_1 : Option Addr) (ca0_1 : Nat) (l0_1 : List (S50)) (A1 : Option Addr) (ca1 : Nat) (l1 : List Int) (A2 : Option Addr) (ca2 : Nat) (l2 : List Int) (w : World) (hr0_1 : Kd.C k50 w A0_1 l0_1.length l0_1) (hc0_1 : l0_1.length ≤ ca0_1) (hr1 : Kd.C (Kd.int .i64) w A1 l1.length l1) (hc1 : l1.length ≤ ca1) (hr2 : Kd.C (Kd.int .i64) w A2 l2.length l2) (hc2 : l2.length ≤ ca2) (c0 : 1048576 < (l1.length : Int)) :
    Calls Try.prog 3 #[.agg #[.int .i64 a0_0, .slice A0_1 l0_1.length ca0_1], .slice A1 l1.length ca1, .slice A2 l2.length ca2] w fun e w' => e = .returned (.bool true) ∧ Below w.heap.size w w' := by
  have hu24 := Try.underlying24
  have hu29 := Try.underlying29
  have HR0_1 := zM hr0_1; clear hr0_1
  have HC0_1 := zM hc0_1; clear hc0_1
  have HR1 := zM hr1; clear hr1
  have HC1 := zM hc1; clear hc1
  have HR2 := zM hr2; clear hr2
  have HC2 := zM hc2; clear hc2
  have HB := zM (Below.refl w.heap.size w)
  have c0b : decide (1048576 < (l1.length : Int)) = true := decide_eq_true c0
  have c0c : decide (1048576 < l1.length) = true := decide_eq_true (by omega)
  clear c0
  go_enter Try.func3, Try.ntmps3
  go_wp2_with (first
    | ((with_reducible refine gate_dst (N := 3) rfl ?_); refine ze 3 #[.int .i64 a0_0, .slice A0_1 l0_1.length ca0_1] 24 ?_; intro gb3 hg w1 hbox hb; have HG3 := zM hg; have HW3 := zM (show w.heap.size ≤ gb3 by rw [hg]; exact below_size HB.out); have HL3 := zM (blk_lt hbox); clear hg; have HS1 := zM hb.size; replace HB := zM (below_step HB.out hb); have BK3 := zM hbox; clear hbox hb; have hc3_0 := zy BK3 0; have hf3_0 := blk_frozen BK3.out 0; have hc3_1 := zy BK3 1; have hf3_1 := blk_frozen BK3.out 1))
  go_ret
  exact ⟨rfl, HB.out⟩
set_option maxRecDepth 100000 in
set_option maxHeartbeats 4000000 in
theorem laws_FnExactTokenBound.exit1 (a0_0 : Int) (A0_1 : Option Addr) (ca0_1 : Nat) (l0_1 : List (S50)) (A1 : Option Addr) (ca1 : Nat) (l1 : List Int) (A2 : Option Addr) (ca2 : Nat) (l2 : List Int) (w : World) (hr0_1 : Kd.C k50 w A0_1 l0_1.length l0_1) (hc0_1 : l0_1.length ≤ ca0_1) (hr1 : Kd.C (Kd.int .i64) w A1 l1.length l1) (hc1 : l1.length ≤ ca1) (hr2 : Kd.C (Kd.int .i64) w A2 l2.length l2) (hc2 : l2.length ≤ ca2) (c0 : ¬ (1048576 < (l1.length : Int))) (c1 : 1048576 < (l2.length : Int)) :
    Calls Try.prog 3 #[.agg #[.int .i64 a0_0, .slice A0_1 l0_1.length ca0_1], .slice A1 l1.length ca1, .slice A2 l2.length ca2] w fun e w' => e = .returned (.bool true) ∧ Below w.heap.size w w' := by
  have hu24 := Try.underlying24
  have hu29 := Try.underlying29
  have HR0_1 := zM hr0_1; clear hr0_1
  have HC0_1 := zM hc0_1; clear hc0_1
  have HR1 := zM hr1; clear hr1
  have HC1 := zM hc1; clear hc1
  have HR2 := zM hr2; clear hr2
  have HC2 := zM hc2; clear hc2
  have HB := zM (Below.refl w.heap.size w)
  have c0b : decide (1048576 < (l1.length : Int)) = false := decide_eq_false c0
  have c0c : decide (1048576 < l1.length) = false := decide_eq_false (by omega)
  clear c0
  have c1b : decide (1048576 < (l2.length : Int)) = true := decide_eq_true c1
  have c1c : decide (1048576 < l2.length) = true := decide_eq_true (by omega)
  clear c1
  go_enter Try.func3, Try.ntmps3
  go_wp2_with (first
    | ((with_reducible refine gate_dst (N := 3) rfl ?_); refine ze 3 #[.int .i64 a0_0, .slice A0_1 l0_1.length ca0_1] 24 ?_; intro gb3 hg w1 hbox hb; have HG3 := zM hg; have HW3 := zM (show w.heap.size ≤ gb3 by rw [hg]; exact below_size HB.out); have HL3 := zM (blk_lt hbox); clear hg; have HS1 := zM hb.size; replace HB := zM (below_step HB.out hb); have BK3 := zM hbox; clear hbox hb; have hc3_0 := zy BK3 0; have hf3_0 := blk_frozen BK3.out 0; have hc3_1 := zy BK3 1; have hf3_1 := blk_frozen BK3.out 1))
  go_ret
  exact ⟨rfl, HB.out⟩
set_option maxRecDepth 100000 in
set_option maxHeartbeats 4000000 in
theorem laws_FnExactTokenBound.exit2 (a0_0 : Int) (A0_1 : Option Addr) (ca0_1 : Nat) (l0_1 : List (S50)) (A1 : Option Addr) (ca1 : Nat) (l1 : List Int) (A2 : Option Addr) (ca2 : Nat) (l2 : List Int) (t0 : Int) (w : World) (hr0_1 : Kd.C k50 w A0_1 l0_1.length l0_1) (hc0_1 : l0_1.length ≤ ca0_1) (hr1 : Kd.C (Kd.int .i64) w A1 l1.length l1) (hc1 : l1.length ≤ ca1) (hr2 : Kd.C (Kd.int .i64) w A2 l2.length l2) (hc2 : l2.length ≤ ca2) (c0 : ¬ (1048576 < (l1.length : Int))) (c1 : ¬ (1048576 < (l2.length : Int))) (c2 : t0 < 0) (h0 : laws_szGraph.f a0_0 l0_1 1048576 = some t0) :
    Calls Try.prog 3 #[.agg #[.int .i64 a0_0, .slice A0_1 l0_1.length ca0_1], .slice A1 l1.length ca1, .slice A2 l2.length ca2] w fun e w' => e = .returned (.bool true) ∧ Below w.heap.size w w' := by
  have hu24 := Try.underlying24
  have hu29 := Try.underlying29
  have HR0_1 := zM hr0_1; clear hr0_1
  have HC0_1 := zM hc0_1; clear hc0_1
  have HR1 := zM hr1; clear hr1
  have HC1 := zM hc1; clear hc1
  have HR2 := zM hr2; clear hr2
  have HC2 := zM hc2; clear hc2
  have HB := zM (Below.refl w.heap.size w)
  have H0 := zM h0; clear h0
  have c0b : decide (1048576 < (l1.length : Int)) = false := decide_eq_false c0
  have c0c : decide (1048576 < l1.length) = false := decide_eq_false (by omega)
  clear c0
  have c1b : decide (1048576 < (l2.length : Int)) = false := decide_eq_false c1
  have c1c : decide (1048576 < l2.length) = false := decide_eq_false (by omega)
  clear c1
  have c2b : decide (t0 < 0) = true := decide_eq_true c2
  clear c2
  go_enter Try.func3, Try.ntmps3
  go_wp2_with (first
    | ((with_reducible refine gate_dst (N := 3) rfl ?_); refine ze 3 #[.int .i64 a0_0, .slice A0_1 l0_1.length ca0_1] 24 ?_; intro gb3 hg w1 hbox hb; have HG3 := zM hg; have HW3 := zM (show w.heap.size ≤ gb3 by rw [hg]; exact below_size HB.out); have HL3 := zM (blk_lt hbox); clear hg; have HS1 := zM hb.size; replace HB := zM (below_step HB.out hb); have BK3 := zM hbox; clear hbox hb; have hc3_0 := zy BK3 0; have hf3_0 := blk_frozen BK3.out 0; have hc3_1 := zy BK3 1; have hf3_1 := blk_frozen BK3.out 1)
    | (have hst_ : Aside0 (Below w.heap.size w w1) := HB; clear hst_; go_at_call 4; refine (laws_szGraph.calls a0_0 _ _ l0_1 1048576 t0 _ ?side1 ?side2 H0.out).mono ?_; (case side1 => exact zC (Kd.C_below HR0_1.out HB.out)); (case side2 => exact HC0_1.out); rintro e w2 ⟨rfl, hb⟩; replace BK3 := uKb BK3 hb; have HS2 := zM hb.size; replace HB := zM (below_step HB.out hb); clear hb; replace hc3_0 := zy BK3 0; replace hf3_0 := blk_frozen BK3.out 0; replace hc3_1 := zy BK3 1; replace hf3_1 := blk_frozen BK3.out 1))
  go_ret
  exact ⟨rfl, HB.out⟩
set_option maxRecDepth 100000 in
set_option maxHeartbeats 4000000 in
theorem laws_FnExactTokenBound.walk (a0_0 : Int) (A0_1 : Option Addr) (ca0_1 : Nat) (l0_1 : List (S50)) (A1 : Option Addr) (ca1 : Nat) (l1 : List Int) (A2 : Option Addr) (ca2 : Nat) (l2 : List Int) (k1 k2 k3 k4 k5 k6 k7 k8 : Nat) (t0 : Int) (q0 : Int) (q1 : Bool) (w : World) (hr0_1 : Kd.C k50 w A0_1 l0_1.length l0_1) (hc0_1 : l0_1.length ≤ ca0_1) (hr1 : Kd.C (Kd.int .i64) w A1 l1.length l1) (hc1 : l1.length ≤ ca1) (hr2 : Kd.C (Kd.int .i64) w A2 l2.length l2) (hc2 : l2.length ≤ ca2) (c0 : ¬ (1048576 < (l1.length : Int))) (c1 : ¬ (1048576 < (l2.length : Int))) (c2 : ¬ (t0 < 0)) (h0 : laws_szGraph.f a0_0 l0_1 1048576 = some t0) (h1 : laws_toGraph.f k1 a0_0 l0_1 = some (a0_0, l0_1)) (h2 : laws_toIntS.f k2 l1 = some l1) (h3 : laws_toIntS.f k3 l2 = some l2) (h4 : spec_TokenBound.f k4 a0_0 l0_1 l1 l2 = some (q0, q1)) (h5 : impl_TokenBound.f k5 a0_0 l0_1 l1 l2 = some (q0, q1)) (h6 : laws_eqGraph.f k6 a0_0 l0_1 a0_0 l0_1 = some true) (h7 : laws_eqIntS.f k7 l1 l1 = some true) (h8 : laws_eqIntS.f k8 l2 l2 = some true) :
    Calls Try.prog 3 #[.agg #[.int .i64 a0_0, .slice A0_1 l0_1.length ca0_1], .slice A1 l1.length ca1, .slice A2 l2.length ca2] w fun e w' => e = .returned (.bool true) ∧ Below w.heap.size w w' := by
  have hu24 := Try.underlying24
  have hu29 := Try.underlying29
  have HR0_1 := zM hr0_1; clear hr0_1
  have HC0_1 := zM hc0_1; clear hc0_1
  have HR1 := zM hr1; clear hr1
  have HC1 := zM hc1; clear hc1
  have HR2 := zM hr2; clear hr2
  have HC2 := zM hc2; clear hc2
  have HB := zM (Below.refl w.heap.size w)
  have H0 := zM h0; clear h0
  have H1 := zM h1; clear h1
  have H2 := zM h2; clear h2
  have H3 := zM h3; clear h3
  have H4 := zM h4; clear h4
  have H5 := zM h5; clear h5
  have H6 := zM h6; clear h6
  have H7 := zM h7; clear h7
  have H8 := zM h8; clear h8
  have c0b : decide (1048576 < (l1.length : Int)) = false := decide_eq_false c0
  have c0c : decide (1048576 < l1.length) = false := decide_eq_false (by omega)
  clear c0
  have c1b : decide (1048576 < (l2.length : Int)) = false := decide_eq_false c1
  have c1c : decide (1048576 < l2.length) = false := decide_eq_false (by omega)
  clear c1
  have c2b : decide (t0 < 0) = false := decide_eq_false c2
  clear c2
  go_enter Try.func3, Try.ntmps3
  go_upto_region 16 with (first
    | ((with_reducible refine gate_dst (N := 3) rfl ?_); refine ze 3 #[.int .i64 a0_0, .slice A0_1 l0_1.length ca0_1] 24 ?_; intro gb3 hg w1 hbox hb; have HG3 := zM hg; have HW3 := zM (show w.heap.size ≤ gb3 by rw [hg]; exact below_size HB.out); have HL3 := zM (blk_lt hbox); clear hg; have HS1 := zM hb.size; replace HB := zM (below_step HB.out hb); have BK3 := zM hbox; clear hbox hb; have hc3_0 := zy BK3 0; have hf3_0 := blk_frozen BK3.out 0; have hc3_1 := zy BK3 1; have hf3_1 := blk_frozen BK3.out 1)
    | (have hst_ : Aside0 (Below w.heap.size w w1) := HB; clear hst_; go_at_call 4; refine (laws_szGraph.calls a0_0 _ _ l0_1 1048576 t0 _ ?side1 ?side2 H0.out).mono ?_; (case side1 => exact zC (Kd.C_below HR0_1.out HB.out)); (case side2 => exact HC0_1.out); rintro e w2 ⟨rfl, hb⟩; replace BK3 := uKb BK3 hb; have HS2 := zM hb.size; replace HB := zM (below_step HB.out hb); clear hb; replace hc3_0 := zy BK3 0; replace hf3_0 := blk_frozen BK3.out 0; replace hc3_1 := zy BK3 1; replace hf3_1 := blk_frozen BK3.out 1)
    | (have hst_ : Aside0 (Below w.heap.size w w2) := HB; clear hst_; go_at_call 6; refine (laws_toGraph.calls k1 a0_0 _ _ l0_1 a0_0 l0_1 _ ?side1 ?side2 H1.out).mono ?_; (case side1 => exact zC (Kd.C_below HR0_1.out HB.out)); (case side2 => exact HC0_1.out); rintro e w3 ⟨v0_0, rfl, ho0, hb⟩; replace BK3 := uKb BK3 hb; have HS3 := zM hb.size; have HO0_0 := uR HB.out (by first | exact ho0 | exact Kd.R_mono ho0 (fun _ _ => trivial) | exact Kd.R_mono ho0 (fun _ hk_ => hk_.1)); clear ho0; obtain ⟨Ao0_0, co0_0, eo0_0⟩ := Kd.R_slice HO0_0.out; subst eo0_0; replace HB := zM (below_step HB.out hb); clear hb; replace hc3_0 := zy BK3 0; replace hf3_0 := blk_frozen BK3.out 0; replace hc3_1 := zy BK3 1; replace hf3_1 := blk_frozen BK3.out 1)
    | (have hst_ : Aside0 (Below w.heap.size w w3) := HB; clear hst_; go_at_call 7; refine (laws_toIntS.calls k2 _ _ l1 l1 _ ?side1 ?side2 H2.out).mono ?_; (case side1 => exact zC (Kd.C_below HR1.out HB.out)); (case side2 => exact HC1.out); rintro e w4 ⟨v1_0, rfl, ho0, hb⟩; replace HO0_0 := uRb HO0_0 hb; replace BK3 := uKb BK3 hb; have HS4 := zM hb.size; have HO1_0 := uR HB.out (by first | exact ho0 | exact Kd.R_mono ho0 (fun _ _ => trivial) | exact Kd.R_mono ho0 (fun _ hk_ => hk_.1)); clear ho0; obtain ⟨Ao1_0, co1_0, eo1_0⟩ := Kd.R_slice HO1_0.out; subst eo1_0; replace HB := zM (below_step HB.out hb); clear hb; replace hc3_0 := zy BK3 0; replace hf3_0 := blk_frozen BK3.out 0; replace hc3_1 := zy BK3 1; replace hf3_1 := blk_frozen BK3.out 1)
    | (have hst_ : Aside0 (Below w.heap.size w w4) := HB; clear hst_; go_at_call 7; refine (laws_toIntS.calls k3 _ _ l2 l2 _ ?side1 ?side2 H3.out).mono ?_; (case side1 => exact zC (Kd.C_below HR2.out HB.out)); (case side2 => exact HC2.out); rintro e w5 ⟨v2_0, rfl, ho0, hb⟩; replace HO0_0 := uRb HO0_0 hb; replace HO1_0 := uRb HO1_0 hb; replace BK3 := uKb BK3 hb; have HS5 := zM hb.size; have HO2_0 := uR HB.out (by first | exact ho0 | exact Kd.R_mono ho0 (fun _ _ => trivial) | exact Kd.R_mono ho0 (fun _ hk_ => hk_.1)); clear ho0; obtain ⟨Ao2_0, co2_0, eo2_0⟩ := Kd.R_slice HO2_0.out; subst eo2_0; replace HB := zM (below_step HB.out hb); clear hb; replace hc3_0 := zy BK3 0; replace hf3_0 := blk_frozen BK3.out 0; replace hc3_1 := zy BK3 1; replace hf3_1 := blk_frozen BK3.out 1)
    | (have hst_ : Aside0 (Below w.heap.size w w5) := HB; clear hst_; go_at_call 5; refine (spec_TokenBound.calls k4 a0_0 _ _ l0_1 _ _ l1 _ _ l2 q0 q1 _ ?side1 ?side2 ?side3 ?side4 ?side5 ?side6 H4.out).mono ?_; (case side1 => exact zC (Kd.R_reads' HO0_0.out).2.2); (case side2 => exact (Kd.R_reads' HO0_0.out).2.1); (case side3 => exact zC (Kd.R_reads' HO1_0.out).2.2); (case side4 => exact (Kd.R_reads' HO1_0.out).2.1); (case side5 => exact zC (Kd.R_reads' HO2_0.out).2.2); (case side6 => exact (Kd.R_reads' HO2_0.out).2.1); clear HO0_0; clear HO1_0; clear HO2_0; rintro e w6 ⟨rfl, hb⟩; replace BK3 := uKb BK3 hb; have HS6 := zM hb.size; replace HB := zM (below_step HB.out hb); clear hb; replace hc3_0 := zy BK3 0; replace hf3_0 := blk_frozen BK3.out 0; replace hc3_1 := zy BK3 1; replace hf3_1 := blk_frozen BK3.out 1)
    | (have hst_ : Aside0 (Below w.heap.size w w6) := HB; clear hst_; go_at_call 6; refine (laws_toGraph.calls k1 a0_0 _ _ l0_1 a0_0 l0_1 _ ?side1 ?side2 H1.out).mono ?_; (case side1 => exact zC (Kd.C_below HR0_1.out HB.out)); (case side2 => exact HC0_1.out); rintro e w7 ⟨v3_0, rfl, ho0, hb⟩; replace BK3 := uKb BK3 hb; have HS7 := zM hb.size; have HO3_0 := uR HB.out (by first | exact ho0 | exact Kd.R_mono ho0 (fun _ _ => trivial) | exact Kd.R_mono ho0 (fun _ hk_ => hk_.1)); clear ho0; obtain ⟨Ao3_0, co3_0, eo3_0⟩ := Kd.R_slice HO3_0.out; subst eo3_0; replace HB := zM (below_step HB.out hb); clear hb; replace hc3_0 := zy BK3 0; replace hf3_0 := blk_frozen BK3.out 0; replace hc3_1 := zy BK3 1; replace hf3_1 := blk_frozen BK3.out 1)
    | ((with_reducible refine gate_dst (N := 10) rfl ?_); refine ze 10 #[.int .i64 0, .slice none 0 0] 29 ?_; intro gb10 hg w8 hbox hb; have HG10 := zM hg; have HW10 := zM (show w.heap.size ≤ gb10 by rw [hg]; exact below_size HB.out); have HL10 := zM (blk_lt hbox); clear hg; replace HO3_0 := uRb HO3_0 hb; replace BK3 := uKb BK3 hb; have HS8 := zM hb.size; replace HB := zM (below_step HB.out hb); have hn3_10 : gb3 ≠ gb10 := (by have := HG10.out; have := HL3.out; have := HS2.out; have := HS3.out; have := HS4.out; have := HS5.out; have := HS6.out; have := HS7.out; omega); have hn10_3 := hn3_10.symm; have BK10 := zM hbox; clear hbox hb; replace hc3_0 := zy BK3 0; replace hf3_0 := blk_frozen BK3.out 0; replace hc3_1 := zy BK3 1; replace hf3_1 := blk_frozen BK3.out 1; have hc10_0 := zy BK10 0; have hf10_0 := blk_frozen BK10.out 0; have hc10_1 := zy BK10 1; have hf10_1 := blk_frozen BK10.out 1)
    | (have hst_ : Aside0 (Below w.heap.size w w8) := HB; clear hst_; go_at_call 7; refine uBox BK10 HB HW10.out ?_; intro w9 BKn hk HBn; replace HO3_0 := uRk HO3_0 hk (fun k_ hk_ e_ => by have e2 : k_ = gb10 := e_; have := HG10.out; have := HL10.out; have h2 : w6.heap.size ≤ k_ ∧ k_ < w7.heap.size := hk_; omega); replace BK3 := uKk BK3 hk (fun e_ => by have e2 : gb3 = gb10 := e_; have := HG10.out; have := HL10.out; have := HG3.out; have := HL3.out; have := HS2.out; have := HS3.out; have := HS4.out; have := HS5.out; have := HS6.out; have := HS7.out; omega); replace BK10 := BKn; replace HB := HBn; clear BKn HBn; have HS9 := zM hk.1; clear hk; refine (laws_toIntS.calls k2 _ _ l1 l1 _ ?side1 ?side2 H2.out).mono ?_; (case side1 => exact zC (Kd.C_below HR1.out HB.out)); (case side2 => exact HC1.out); rintro e w10 ⟨v4_0, rfl, ho0, hb⟩; replace HO3_0 := uRb HO3_0 hb; replace BK3 := uKb BK3 hb; replace BK10 := uKb BK10 hb; have HS10 := zM hb.size; have HO4_0 := uR HB.out (by first | exact ho0 | exact Kd.R_mono ho0 (fun _ _ => trivial) | exact Kd.R_mono ho0 (fun _ hk_ => hk_.1)); clear ho0; obtain ⟨Ao4_0, co4_0, eo4_0⟩ := Kd.R_slice HO4_0.out; subst eo4_0; replace HB := zM (below_step HB.out hb); clear hb; replace hc3_0 := zy BK3 0; replace hf3_0 := blk_frozen BK3.out 0; replace hc3_1 := zy BK3 1; replace hf3_1 := blk_frozen BK3.out 1; replace hc10_0 := zy BK10 0; replace hf10_0 := blk_frozen BK10.out 0; replace hc10_1 := zy BK10 1; replace hf10_1 := blk_frozen BK10.out 1)
    | (have hst_ : Aside0 (Below w.heap.size w w10) := HB; clear hst_; go_at_call 7; refine (laws_toIntS.calls k3 _ _ l2 l2 _ ?side1 ?side2 H3.out).mono ?_; (case side1 => exact zC (Kd.C_below HR2.out HB.out)); (case side2 => exact HC2.out); rintro e w11 ⟨v5_0, rfl, ho0, hb⟩; replace HO3_0 := uRb HO3_0 hb; replace HO4_0 := uRb HO4_0 hb; replace BK3 := uKb BK3 hb; replace BK10 := uKb BK10 hb; have HS11 := zM hb.size; have HO5_0 := uR HB.out (by first | exact ho0 | exact Kd.R_mono ho0 (fun _ _ => trivial) | exact Kd.R_mono ho0 (fun _ hk_ => hk_.1)); clear ho0; obtain ⟨Ao5_0, co5_0, eo5_0⟩ := Kd.R_slice HO5_0.out; subst eo5_0; replace HB := zM (below_step HB.out hb); clear hb; replace hc3_0 := zy BK3 0; replace hf3_0 := blk_frozen BK3.out 0; replace hc3_1 := zy BK3 1; replace hf3_1 := blk_frozen BK3.out 1; replace hc10_0 := zy BK10 0; replace hf10_0 := blk_frozen BK10.out 0; replace hc10_1 := zy BK10 1; replace hf10_1 := blk_frozen BK10.out 1)
    | (have hst_ : Aside0 (Below w.heap.size w w11) := HB; clear hst_; go_at_call 8; refine (impl_TokenBound.calls k5 a0_0 _ _ l0_1 _ _ l1 _ _ l2 q0 q1 _ ?side1 ?side2 ?side3 ?side4 ?side5 ?side6 H5.out).mono ?_; (case side1 => exact zC (Kd.R_reads' HO3_0.out).2.2); (case side2 => exact (Kd.R_reads' HO3_0.out).2.1); (case side3 => exact zC (Kd.R_reads' HO4_0.out).2.2); (case side4 => exact (Kd.R_reads' HO4_0.out).2.1); (case side5 => exact zC (Kd.R_reads' HO5_0.out).2.2); (case side6 => exact (Kd.R_reads' HO5_0.out).2.1); rintro e w12 ⟨rfl, hb⟩; replace HO3_0 := uRb HO3_0 hb; replace HO4_0 := uRb HO4_0 hb; replace HO5_0 := uRb HO5_0 hb; replace BK3 := uKb BK3 hb; replace BK10 := uKb BK10 hb; have HS12 := zM hb.size; replace HB := zM (below_step HB.out hb); clear hb; replace hc3_0 := zy BK3 0; replace hf3_0 := blk_frozen BK3.out 0; replace hc3_1 := zy BK3 1; replace hf3_1 := blk_frozen BK3.out 1; replace hc10_0 := zy BK10 0; replace hf10_0 := blk_frozen BK10.out 0; replace hc10_1 := zy BK10 1; replace hf10_1 := blk_frozen BK10.out 1))
  (try simp only [Act.put, List.setIfInBounds_toArray, List.set_cons_zero, List.set_cons_succ])
  replace HO3_0 := zM (Kd.R_drew HO3_0.out)
  replace HO4_0 := zM (Kd.R_drew HO4_0.out)
  replace HO5_0 := zM (Kd.R_drew HO5_0.out)
  replace BK3 := zM (blk_drew BK3.out)
  replace BK10 := zM (blk_drew BK10.out)
  replace HB := zM (below_drew1 HB.out)
  refine zs (n := 5) (fun w' => w'.cell? ⟨gb10, 0, none⟩ = some (.int .i64 a0_0) ∧ w'.cell? ⟨gb10, 1, none⟩ = some (.slice Ao3_0 l0_1.length co3_0) ∧ w'.cell? ⟨gb3, 0, none⟩ = some (.int .i64 a0_0) ∧ w'.cell? ⟨gb3, 1, none⟩ = some (.slice A0_1 l0_1.length ca0_1)) ⟨(blk_cell BK10.out 0).trans rfl, (blk_cell BK10.out 1).trans rfl, (blk_cell BK3.out 0).trans rfl, (blk_cell BK3.out 1).trans rfl⟩ (fun hHeld => ?_)
  have HS13 := zM (show w12.heap.size ≤ w12.drew.heap.size from Nat.le_refl _)
  generalize w12.drew = w13 at HO3_0 HO4_0 HO5_0 BK3 BK10 HB HS13 hHeld ⊢
  refine zl 0 57 hHeld ?_ (hy := by rintro w' ⟨s0, s1, s2, s3⟩; go_simp; with_reducible rfl)
  refine zl 1 58 hHeld ?_ (hy := by rintro w' ⟨s0, s1, s2, s3⟩; go_simp; with_reducible rfl)
  refine zh 2 59 Try.func6 #[.agg #[.int .i64 a0_0, .slice A0_1 l0_1.length ca0_1]] (fun K hK => ?_)
  (refine (laws_toGraph.calls k1 a0_0 _ _ l0_1 a0_0 l0_1 _ ?side1 ?side2 H1.out).mono ?_; (case side1 => exact zC (Kd.C_below HR0_1.out HB.out)); (case side2 => exact HC0_1.out); rintro e w14 ⟨v6_0, rfl, ho0, hb⟩; replace HO3_0 := uRb HO3_0 hb; replace HO4_0 := uRb HO4_0 hb; replace HO5_0 := uRb HO5_0 hb; replace BK3 := uKb BK3 hb; replace BK10 := uKb BK10 hb; have HS14 := zM hb.size; have HO6_0 := uR HB.out (by first | exact ho0 | exact Kd.R_mono ho0 (fun _ _ => trivial) | exact Kd.R_mono ho0 (fun _ hk_ => hk_.1)); clear ho0; obtain ⟨Ao6_0, co6_0, eo6_0⟩ := Kd.R_slice HO6_0.out; subst eo6_0; replace HB := zM (below_step HB.out hb); clear hb)
  refine ⟨_, rfl, ?_⟩
  refine hK.out _ _ ⟨(blk_cell BK10.out 0).trans rfl, (blk_cell BK10.out 1).trans rfl, (blk_cell BK3.out 0).trans rfl, (blk_cell BK3.out 1).trans rfl⟩ (fun hHeld => ?_)
  clear hK K
  refine zn 59 ?_
  refine zh 3 60 Try.func9 #[.agg #[.int .i64 a0_0, .slice Ao3_0 l0_1.length co3_0], .agg #[.int .i64 a0_0, .slice Ao6_0 l0_1.length co6_0]] (fun K hK => ?_)
  (refine (laws_eqGraph.calls k6 a0_0 _ _ l0_1 a0_0 _ _ l0_1 true _ ?side1 ?side2 ?side3 ?side4 H6.out).mono ?_; (case side1 => exact zC (Kd.R_reads' HO3_0.out).2.2); (case side2 => exact (Kd.R_reads' HO3_0.out).2.1); (case side3 => exact zC (Kd.R_reads' HO6_0.out).2.2); (case side4 => exact (Kd.R_reads' HO6_0.out).2.1); clear HO3_0; clear HO6_0; rintro e w15 ⟨rfl, hb⟩; replace HO4_0 := uRb HO4_0 hb; replace HO5_0 := uRb HO5_0 hb; replace BK3 := uKb BK3 hb; replace BK10 := uKb BK10 hb; have HS15 := zM hb.size; replace HB := zM (below_step HB.out hb); clear hb)
  refine ⟨_, rfl, ?_⟩
  refine hK.out _ _ ⟨(blk_cell BK10.out 0).trans rfl, (blk_cell BK10.out 1).trans rfl, (blk_cell BK3.out 0).trans rfl, (blk_cell BK3.out 1).trans rfl⟩ (fun hHeld => ?_)
  clear hK K
  refine zn 60 ?_
  refine zq 4 61 ?_
  refine zx ?_
  replace hc3_0 := zy BK3 0
  replace hf3_0 := blk_frozen BK3.out 0
  replace hc3_1 := zy BK3 1
  replace hf3_1 := blk_frozen BK3.out 1
  replace hc10_0 := zy BK10 0
  replace hf10_0 := blk_frozen BK10.out 0
  replace hc10_1 := zy BK10 1
  replace hf10_1 := blk_frozen BK10.out 1
  go_wp2_with (first
    | (have hst_ : Aside0 (Below w.heap.size w w15) := HB; clear hst_; go_at_call 7; refine (laws_toIntS.calls k2 _ _ l1 l1 _ ?side1 ?side2 H2.out).mono ?_; (case side1 => exact zC (Kd.C_below HR1.out HB.out)); (case side2 => exact HC1.out); clear BK3 hc3_0 hf3_0 hc3_1 hf3_1; clear BK10 hc10_0 hf10_0 hc10_1 hf10_1; rintro e w16 ⟨v7_0, rfl, ho0, hb⟩; replace HO4_0 := uRb HO4_0 hb; replace HO5_0 := uRb HO5_0 hb; have HS16 := zM hb.size; have HO7_0 := uR HB.out (by first | exact ho0 | exact Kd.R_mono ho0 (fun _ _ => trivial) | exact Kd.R_mono ho0 (fun _ hk_ => hk_.1)); clear ho0; obtain ⟨Ao7_0, co7_0, eo7_0⟩ := Kd.R_slice HO7_0.out; subst eo7_0; replace HB := zM (below_step HB.out hb); clear hb)
    | (have hst_ : Aside0 (Below w.heap.size w w16) := HB; clear hst_; go_at_call 10; refine (laws_eqIntS.calls k7 _ _ l1 _ _ l1 true _ ?side1 ?side2 ?side3 ?side4 H7.out).mono ?_; (case side1 => exact zC (Kd.R_reads' HO4_0.out).2.2); (case side2 => exact (Kd.R_reads' HO4_0.out).2.1); (case side3 => exact zC (Kd.R_reads' HO7_0.out).2.2); (case side4 => exact (Kd.R_reads' HO7_0.out).2.1); clear HO4_0; clear HO7_0; rintro e w17 ⟨rfl, hb0⟩; have hb := hb0.below; clear hb0; replace HO5_0 := uRb HO5_0 hb; have HS17 := zM hb.size; replace HB := zM (below_step HB.out hb); clear hb)
    | (have hst_ : Aside0 (Below w.heap.size w w17) := HB; clear hst_; go_at_call 7; refine (laws_toIntS.calls k3 _ _ l2 l2 _ ?side1 ?side2 H3.out).mono ?_; (case side1 => exact zC (Kd.C_below HR2.out HB.out)); (case side2 => exact HC2.out); rintro e w18 ⟨v8_0, rfl, ho0, hb⟩; replace HO5_0 := uRb HO5_0 hb; have HS18 := zM hb.size; have HO8_0 := uR HB.out (by first | exact ho0 | exact Kd.R_mono ho0 (fun _ _ => trivial) | exact Kd.R_mono ho0 (fun _ hk_ => hk_.1)); clear ho0; obtain ⟨Ao8_0, co8_0, eo8_0⟩ := Kd.R_slice HO8_0.out; subst eo8_0; replace HB := zM (below_step HB.out hb); clear hb)
    | (have hst_ : Aside0 (Below w.heap.size w w18) := HB; clear hst_; go_at_call 10; refine (laws_eqIntS.calls k8 _ _ l2 _ _ l2 true _ ?side1 ?side2 ?side3 ?side4 H8.out).mono ?_; (case side1 => exact zC (Kd.R_reads' HO5_0.out).2.2); (case side2 => exact (Kd.R_reads' HO5_0.out).2.1); (case side3 => exact zC (Kd.R_reads' HO8_0.out).2.2); (case side4 => exact (Kd.R_reads' HO8_0.out).2.1); clear HO5_0; clear HO8_0; rintro e w19 ⟨rfl, hb0⟩; have hb := hb0.below; clear hb0; have HS19 := zM hb.size; replace HB := zM (below_step HB.out hb); clear hb))
  go_ret
  exact ⟨rfl, HB.out⟩
end Go.Proofs.Ytnjadmgnnbamhaa.P
