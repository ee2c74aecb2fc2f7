-- Written by a program of this session (the kit's print, turned: wip/print/patch.py) out of the translation. Not trusted: Lean checks it.
import Derived.Test.YtcjfmohmjhjpoaaDoorVerifyChecksumG3
import Derived.Lib.IndexMore
import Derived.Lib.IndexBytes
import Derived.Laws.Strings
namespace Go.Proofs.YtcjfmohmjhjpoaaDoor.P
open Go.RowKit Go.Proofs.YtcjfmohmjhjpoaaDoorW.PrintWords Go.Proofs.YtcjfmohmjhjpoaaDoorW.PrintLast Go.Proofs.YtcjfmohmjhjpoaaDoorW.PrintMore
attribute [local go_sem] max2_int min2_int max_two min_two max_three min_three max_four min_four   -- for this text's walks alone
set_option linter.unusedVariables false
set_option linter.unusedSimpArgs false

/-! ### impl_checksum: function 44 -/
def impl_checksum.l0 : Nat → ByteArray → Int → Int → Int → Option (Int)
 | 0, _, _, _, _ => none
 | k + 1, x0, x3, x6, x7 => if x7 < x6 then (if 0 ≤ x7 then (if x7 < (x0.size : Int) then (impl_checksum.l0 k x0 (Int.tmod (wrap64 ((wrap64 ((wrap64 (41 * x3)) + (wrap64 (bt x0 x7)))) + 1)) 999979) x6 (wrap64 (x7 + 1))) else (none)) else (none)) else (some x3)
def impl_checksum.f (k : Nat) (a0 : ByteArray) : Option (Int) := impl_checksum.l0 k a0 7 (a0.size : Int) 0
set_option maxHeartbeats 8000000 in
set_option maxRecDepth 100000 in
theorem impl_checksum.calls (k : Nat) (a0 : ByteArray) (r : Int) (w : World) (h : impl_checksum.f k a0 = some r) :
 Calls Tryd.prog 44 #[.string a0] w fun e w' => e = .returned (.int .i64 r) ∧ Drawn0 w w' := by
 have H : (impl_checksum.l0 k a0 7 (a0.size : Int) 0) = some r := h
 clear h
 have H' := Aside0.mk H
 clear H
 go_enter Tryd.func44, Tryd.ntmps44
 go_wp2
 go_loopg [3, 7] k (fun kq v3 v7 w' => ∃ (x3_1 : Int) (x7_1 : Int), v3 = .int .i64 x3_1 ∧ v7 = .int .i64 x7_1 ∧ Aside0 (impl_checksum.l0 kq a0 x3_1 (a0.size : Int) x7_1 = some r) ∧ Aside0 (kq ≤ k) ∧ Drawn0 w w')
 case atStart => exact ⟨(7), (0), (by first | rfl | (simp; done) | (simp [*]; done)), (by first | rfl | (simp; done) | (simp [*]; done)), H', ⟨Nat.le_refl _⟩, by repeat (first | exact Drawn0.refl _ | apply Drawn0.step)⟩
 case round =>
  clear H'
  obtain ⟨x3_1, x7_1, rfl, rfl, HA, HK1, ⟨m1, rfl⟩⟩ := hrel
  cases gk with
  | zero => exact absurd HA.out (by simp [impl_checksum.l0])
  | succ k1 =>
   have H := HA.out
   clear HA
   simp only [impl_checksum.l0] at H
   by_cases c2 : x7_1 < (a0.size : Int)
   · rw [if_pos c2] at H
     have c2b0 := decide_eq_true c2
     clear c2
     by_cases c3 : 0 ≤ x7_1
     · rw [if_pos c3] at H
       have c3b0 := decide_eq_true c3
       clear c3
       by_cases c4 : x7_1 < (a0.size : Int)
       · rw [if_pos c4] at H
         have c4b0 := decide_eq_true c4
         clear c4
         have H' := Aside0.mk H
         clear H
         have p5 : 0 ≤ (x7_1 : Int) := of_decide_eq_true zA
         have q5 : x7_1 < (a0.size : Int) := of_decide_eq_true zA
         have hx5 := bt_at a0 x7_1
         replace p5 := eq_true p5
         replace q5 := eq_true q5
         go_wp2
         go_roundg k1
         case measure => have := HK1.out; omega
         case rel => exact ⟨(Int.tmod (wrap64 ((wrap64 ((wrap64 (41 * x3_1)) + (wrap64 (bt a0 x7_1)))) + 1)) 999979), (wrap64 (x7_1 + 1)), (by first | rfl | (simp; done) | (simp [*]; done)), (by first | rfl | (simp; done) | (simp [*]; done)), H', ⟨by have := HK1.out; omega⟩, by repeat (first | exact Drawn0.refl _ | apply Drawn0.step)⟩
       · rw [if_neg c4] at H
         exact absurd H (by simp)
     · rw [if_neg c3] at H
       exact absurd H (by simp)
   · rw [if_neg c2] at H
     have c2b0 : decide (x7_1 < (a0.size : Int)) = false := decide_eq_false c2
     clear c2
     obtain rfl := Option.some.inj H
     go_wp2
     go_ret
     exact ⟨by first | rfl | (simp; done) | (simp [*]; done), by repeat (first | exact Drawn0.refl _ | apply Drawn0.step)⟩

-- NOT PRINTED: function 18 (impl_AppendChecksum)

-- NOT PRINTED: function 5 (laws_FnExactAppendChecksum)

/-! ### spec_VerifyChecksum: function 19 -/
def spec_VerifyChecksum.f (k : Nat) (a0 : ByteArray) : Option (ByteArray × Bool) := if (a0.size : Int) > 4000 then (some ((⟨#[]⟩ : ByteArray), false)) else ((spec_l1Split.f k a0 35).bind fun t166 => (if 0 < (t166.length : Int) then ((spec_l1Seal.f k (rdOf ByteArray.empty t166 0)).bind fun t170 => (if t170.toList = a0.toList then (some (rdOf ByteArray.empty t166 0, true)) else (some ((⟨#[]⟩ : ByteArray), false)))) else (none)))
set_option maxHeartbeats 8000000 in
set_option maxRecDepth 100000 in
theorem spec_VerifyChecksum.calls (k : Nat) (a0 : ByteArray) (r1 : ByteArray) (r2 : Bool) (w : World) (h : spec_VerifyChecksum.f k a0 = some (r1, r2)) :
 Calls Tryd.prog 19 #[.string a0] w fun e w' => e = .returned (.tuple #[.string r1, .bool r2]) ∧ Below w.heap.size w w' := by
 have HB := zM (Below.refl w.heap.size w)
 have H : (if (a0.size : Int) > 4000 then (some ((⟨#[]⟩ : ByteArray), false)) else ((spec_l1Split.f k a0 35).bind fun t166 => (if 0 < (t166.length : Int) then ((spec_l1Seal.f k (rdOf ByteArray.empty t166 0)).bind fun t170 => (if t170.toList = a0.toList then (some (rdOf ByteArray.empty t166 0, true)) else (some ((⟨#[]⟩ : ByteArray), false)))) else (none)))) = some (r1, r2) := h
 clear h
 by_cases c2 : (a0.size : Int) > 4000
 · rw [if_pos c2] at H
   have c2b0 : decide (4000 < (a0.size : Int)) = true := decide_eq_true c2
   have c2b1 : decide (4000 < a0.size) = true := decide_eq_true (by omega)
   clear c2
   simp only [Option.some.injEq, Prod.mk.injEq] at H
   obtain ⟨rfl, rfl⟩ := H
   go_enter Tryd.func19, Tryd.ntmps19
   go_wp2
   go_ret2
   exact ⟨by first | rfl | (simp [errW_none, errW_some] <;> rfl) | (simp [*, errW_none, errW_some] <;> rfl), zB⟩
 · rw [if_neg c2] at H
   have c2b0 : decide (4000 < (a0.size : Int)) = false := decide_eq_false c2
   have c2b1 : decide (4000 < a0.size) = false := decide_eq_false (by omega)
   clear c2
   replace H := Option.bind_eq_some_iff.mp H
   obtain ⟨t166, A30, H⟩ := H
   replace H : (if 0 < (t166.length : Int) then ((spec_l1Seal.f k (rdOf ByteArray.empty t166 0)).bind fun t170 => (if t170.toList = a0.toList then (some (rdOf ByteArray.empty t166 0, true)) else (some ((⟨#[]⟩ : ByteArray), false)))) else (none)) = some (r1, r2) := H
   have A3 := Aside0.mk A30
   clear A30
   by_cases c4 : 0 < (t166.length : Int)
   · rw [if_pos c4] at H
     have c4b0 := decide_eq_true c4
     have c4b1 : decide (0 < t166.length) = true := decide_eq_true (by omega)
     clear c4
     replace H := Option.bind_eq_some_iff.mp H
     obtain ⟨t170, A50, H⟩ := H
     replace H : (if t170.toList = a0.toList then (some (rdOf ByteArray.empty t166 0, true)) else (some ((⟨#[]⟩ : ByteArray), false))) = some (r1, r2) := H
     have A5 := Aside0.mk A50
     clear A50
     by_cases c6 : t170.toList = a0.toList
     · rw [if_pos c6] at H
       have c6b0 : (t170.toList == a0.toList) = true := beq_iff_eq.mpr c6
       have c6b1 : (t170.toList != a0.toList) = false := bne_eq_false_iff_eq.mpr c6
       clear c6
       simp only [Option.some.injEq, Prod.mk.injEq] at H
       obtain ⟨rfl, rfl⟩ := H
       go_enter Tryd.func19, Tryd.ntmps19
       go_wp2_with (first | ((with_reducible refine gate_callee (f := 38) rfl ?_); refine zc 9 Tryd.func38 #[.string a0, .int .u8 35] ?_; (with_reducible refine (spec_l1Split.calls k a0 35 t166 _ A3.out).mono ?_); rintro e w7 ⟨v167, rfl, ho0, hb⟩; refine ⟨_, rfl, ?_⟩; have HO168 := zM (Kd.R_lower ho0 (below_size zB)); replace HB := zM (below_step zB hb); (try clear hb); (try clear hb2); (try clear hk); (try clear hi); (try clear ho0); obtain ⟨Ao8, co8, eo8⟩ := Kd.R_slice HO168.out; subst eo8; have p169 : 0 ≤ (0 : Int) := (by omega); have q169 : 0 < (t166.length : Int) := of_decide_eq_true zA; obtain ⟨ad169, e169, hx169_0⟩ := Kd.at_string (Kd.R_reads' HO168.out).2.2 0 p169 q169; cases e169; have qi169 : (0 < t166.length) = True := eq_true (by omega); (try rw [show ((0 : Int)).toNat = 0 from rfl] at hx169_0); (try rw [Addr.add_zero'] at hx169_0); replace p169 := eq_true p169; replace q169 := eq_true q169) | ((with_reducible refine gate_callee (f := 42) rfl ?_); refine zc 13 Tryd.func42 #[.string (rdOf ByteArray.empty t166 0)] ?_; (with_reducible refine (spec_l1Seal.calls k (rdOf ByteArray.empty t166 0) t170 _ A5.out).mono ?_); rintro e w9 ⟨rfl, hb⟩; refine ⟨_, rfl, ?_⟩; replace HO168 := zM (Kd.R_below (zR HO168.out) hb); replace HB := zM (below_step zB hb); (try clear hb); (try clear hb2); (try clear hk); (try clear hi)))
       go_ret2
       exact ⟨by first | rfl | (simp [errW_none, errW_some] <;> rfl) | (simp [*, errW_none, errW_some] <;> rfl), zB⟩
     · rw [if_neg c6] at H
       have c6b0 : (t170.toList == a0.toList) = false := beq_eq_false_iff_ne.mpr c6
       have c6b1 : (t170.toList != a0.toList) = true := bne_iff_ne.mpr c6
       simp only [Option.some.injEq, Prod.mk.injEq] at H
       obtain ⟨rfl, rfl⟩ := H
       go_enter Tryd.func19, Tryd.ntmps19
       go_wp2_with (first | ((with_reducible refine gate_callee (f := 38) rfl ?_); refine zc 9 Tryd.func38 #[.string a0, .int .u8 35] ?_; (with_reducible refine (spec_l1Split.calls k a0 35 t166 _ A3.out).mono ?_); rintro e w10 ⟨v167, rfl, ho0, hb⟩; refine ⟨_, rfl, ?_⟩; have HO168 := zM (Kd.R_lower ho0 (below_size zB)); replace HB := zM (below_step zB hb); (try clear hb); (try clear hb2); (try clear hk); (try clear hi); (try clear ho0); obtain ⟨Ao11, co11, eo11⟩ := Kd.R_slice HO168.out; subst eo11; have p169 : 0 ≤ (0 : Int) := (by omega); have q169 : 0 < (t166.length : Int) := of_decide_eq_true zA; obtain ⟨ad169, e169, hx169_0⟩ := Kd.at_string (Kd.R_reads' HO168.out).2.2 0 p169 q169; cases e169; have qi169 : (0 < t166.length) = True := eq_true (by omega); (try rw [show ((0 : Int)).toNat = 0 from rfl] at hx169_0); (try rw [Addr.add_zero'] at hx169_0); replace p169 := eq_true p169; replace q169 := eq_true q169) | ((with_reducible refine gate_callee (f := 42) rfl ?_); refine zc 13 Tryd.func42 #[.string (rdOf ByteArray.empty t166 0)] ?_; (with_reducible refine (spec_l1Seal.calls k (rdOf ByteArray.empty t166 0) t170 _ A5.out).mono ?_); rintro e w12 ⟨rfl, hb⟩; refine ⟨_, rfl, ?_⟩; replace HO168 := zM (Kd.R_below (zR HO168.out) hb); replace HB := zM (below_step zB hb); (try clear hb); (try clear hb2); (try clear hk); (try clear hi)))
       go_ret2
       exact ⟨by first | rfl | (simp [errW_none, errW_some] <;> rfl) | (simp [*, errW_none, errW_some] <;> rfl), zB⟩
   · rw [if_neg c4] at H
     exact absurd H (by simp)

-- NOT PRINTED: function 60 (stringslite_Cut)

-- NOT PRINTED: function 45 (strings_Cut)

-- NOT PRINTED: function 20 (impl_VerifyChecksum)

-- NOT PRINTED: function 6 (laws_FnExactVerifyChecksum)

/-! ### spec_l1Read: function 53 -/
end Go.Proofs.YtcjfmohmjhjpoaaDoor.P
namespace Go.Proofs.YtcjfmohmjhjpoaaDoor.P
open Go.RowKit Go.Proofs.YtcjfmohmjhjpoaaDoorW.PrintWords Go.Proofs.YtcjfmohmjhjpoaaDoorW.PrintLast Go.Proofs.YtcjfmohmjhjpoaaDoorW.PrintMore
theorem bt_nat (s : ByteArray) (m : Nat) (h : m < s.data.toList.length) : bt s (m : Int) = ((s.data.toList[m]).toNat : Int) := by
  have h2 : m < s.size := by rw [Array.length_toList] at h; exact h
  unfold bt
  rw [dif_pos (by rw [Int.toNat_natCast]; exact h2)]
  simp [ByteArray.getElem_eq_getElem_data]
theorem size_len (s : ByteArray) : s.size = s.data.toList.length := (Array.length_toList).symm
/-- The checksum from place i on, of n bytes. -/
def sumF (s : ByteArray) : Nat → Int → Int → Int
  | 0, h, _ => h
  | n + 1, h, i => sumF s n (Int.tmod (wrap64 ((wrap64 ((wrap64 (41 * h)) + (wrap64 (bt s i)))) + 1)) 999979) (i + 1)
def sumI (s : ByteArray) : Int := sumF s s.size 7 0
theorem sumF_range (s : ByteArray) (n : Nat) : ∀ h i, -999979 < h → h < 999979 → -999979 < sumF s n h i ∧ sumF s n h i < 999979 := by
  induction n with
  | zero => intro h i h1 h2; exact ⟨h1, h2⟩
  | succ n ih =>
    intro h i h1 h2
    exact ih _ _ (Int.lt_tmod_of_pos _ (by decide)) (Int.tmod_lt_of_pos _ (by decide))
theorem sumI_range (s : ByteArray) : -999979 < sumI s ∧ sumI s < 999979 := sumF_range s _ _ _ (by decide) (by decide)
theorem specSum_loop (s : ByteArray) (hs : s.size ≤ 1048576) (n : Nat) : ∀ (h i : Int), 0 ≤ i → (s.size : Int) - i = n → Ev (fun k => spec_l1Sum.l0 k s h i) (sumF s n h i) := by
  induction n with
  | zero =>
    intro h i h0 hn
    rw [show sumF s 0 h i = h from rfl]
    exact Ev.step (fun k => by rw [spec_l1Sum.l0]) (Ev.neg (by omega) (Ev.now _))
  | succ n ih =>
    intro h i h0 hn
    refine Ev.step (fun k => by rw [spec_l1Sum.l0]) (Ev.pos (by omega) (Ev.pos h0 ?_))
    rw [wrap_nat (m := i + 1) (by omega) (by omega)]
    exact ih _ _ (by omega) (by omega)
theorem implSum_loop (s : ByteArray) (hs : s.size ≤ 1048576) (n : Nat) : ∀ (h i : Int), 0 ≤ i → (s.size : Int) - i = n → Ev (fun k => impl_checksum.l0 k s h (s.size : Int) i) (sumF s n h i) := by
  induction n with
  | zero =>
    intro h i h0 hn
    rw [show sumF s 0 h i = h from rfl]
    exact Ev.step (fun k => by rw [impl_checksum.l0]) (Ev.neg (by omega) (Ev.now _))
  | succ n ih =>
    intro h i h0 hn
    refine Ev.step (fun k => by rw [impl_checksum.l0]) (Ev.pos (by omega) (Ev.pos h0 (Ev.pos (by omega) ?_)))
    rw [wrap_nat (m := i + 1) (by omega) (by omega)]
    exact ih _ _ (by omega) (by omega)
theorem spec_l1Sum_ev (s : ByteArray) (hs : s.size ≤ 1048576) : Ev (fun k => spec_l1Sum.f k s) (sumI s) := specSum_loop s hs _ 7 0 (by omega) (by omega)
theorem impl_checksum_ev (s : ByteArray) (hs : s.size ≤ 1048576) : Ev (fun k => impl_checksum.f k s) (sumI s) := implSum_loop s hs _ 7 0 (by omega) (by omega)
theorem toNat_inj (a b : UInt8) : ((a.toNat : Int) = (b.toNat : Int)) ↔ a = b := by
  constructor
  · intro h
    exact UInt8.toNat_inj.1 (by omega)
  · intro h; rw [h]
theorem idx_mem (l : List UInt8) (c : UInt8) : decide (0 ≤ Lib.indexByte l c) = decide (c ∈ l) := by
  induction l with
  | nil => simp [Lib.indexByte]
  | cons b l ih =>
    have hg := Lib.indexByte_ge l c
    rw [Lib.indexByte]
    by_cases h : b = c
    · subst h; simp
    · rw [if_neg (by simpa using h)]
      have h2 : (c ∈ b :: l) ↔ (c ∈ l) := by
        rw [List.mem_cons]
        exact ⟨fun h3 => h3.resolve_left (fun e => h e.symm), .inr⟩
      rw [decide_eq_decide.2 h2, ← ih]
      by_cases h3 : Lib.indexByte l c = -1
      · rw [if_pos (by simp [h3]), h3]
      · rw [if_neg (by simpa using h3)]
        exact decide_eq_decide.2 (by omega)
/-- A text, the sign # and the numeral of its checksum. -/
def sealB (s : ByteArray) : ByteArray := (s ++ (⟨#[35]⟩ : ByteArray)) ++ str (Lib.itoa (sumI s))
theorem seal_size (s : ByteArray) : (sealB s).size = s.size + 1 + (Lib.itoa (sumI s)).length := by
  rw [sealB, ByteArray.size_append, ByteArray.size_append, str_size]
  rfl
theorem seal_ev (s : ByteArray) (hs : s.size ≤ 1048576) : Ev (fun k => spec_l1Seal.f k s) (sealB s) := by
  have h := sumI_range s
  have hl := Lib.itoa_length_le (sumI s) (by omega) (by omega)
  unfold spec_l1Seal.f
  refine Ev.pos (by omega) ?_
  refine Ev.bind (spec_l1Sum_ev s hs) ?_
  refine Ev.bind (num_any (sumI s) (by omega) (by omega)) ?_
  refine Ev.pos ?_ (Ev.now _)
  rw [ByteArray.size_append, str_size, show (⟨#[35]⟩ : ByteArray).size = 1 from rfl]
  omega
/-- What AppendChecksum answers. -/
def appR (s : ByteArray) : ByteArray × Bool := if s.size ≤ 4000 ∧ ¬ (35 : UInt8) ∈ s.data.toList ∧ (sealB s).size ≤ 4000 then (sealB s, true) else (⟨#[]⟩, false)
end Go.Proofs.YtcjfmohmjhjpoaaDoor.P
namespace Go.Proofs.YtcjfmohmjhjpoaaDoor.P
open Go.RowKit Go.Proofs.YtcjfmohmjhjpoaaDoorW.PrintWords Go.Proofs.YtcjfmohmjhjpoaaDoorW.PrintLast Go.Proofs.YtcjfmohmjhjpoaaDoorW.PrintMore
theorem str_eq_iff (a b : ByteArray) : a.toList = b.toList ↔ a = b := by
  rw [ByteArray.toList_eq, ByteArray.toList_eq]
  constructor
  · intro h
    rw [← str_data a, ← str_data b, h]
  · intro h; rw [h]
def pre (p : List UInt8) : List (List UInt8) → List (List UInt8)
  | [] => [p]
  | x :: xs => (p ++ x) :: xs
/-- The pieces between the bytes c. -/
def spl (c : UInt8) : List UInt8 → List (List UInt8)
  | [] => [[]]
  | b :: l => if b = c then [] :: spl c l else pre [b] (spl c l)
theorem pre_ne (p : List UInt8) (z : List (List UInt8)) : pre p z ≠ [] := by cases z <;> simp [pre]
theorem spl_ne (c : UInt8) (l : List UInt8) : spl c l ≠ [] := by
  cases l with
  | nil => simp [spl]
  | cons b l => rw [spl]; split; simp; exact pre_ne _ _
theorem pre_nil {z : List (List UInt8)} (h : z ≠ []) : pre [] z = z := by
  cases z with
  | nil => exact absurd rfl h
  | cons x xs => simp [pre]
theorem pre_pre (p q : List UInt8) (z : List (List UInt8)) : pre p (pre q z) = pre (p ++ q) z := by cases z <;> simp [pre]
theorem extract_str (s : ByteArray) (a b : Nat) : s.extract a b = str ((s.data.toList.take b).drop a) := by
  apply ByteArray.ext
  apply Array.ext'
  rw [ByteArray.data_extract, Array.toList_extract, List.extract_eq_take_drop, List.drop_take]
  rfl
theorem split_loop (s : ByteArray) (c : UInt8) (hs : s.size ≤ 1048576) (d : Nat) : ∀ (m from_ : Nat) (acc : List ByteArray), s.size - m = d → from_ ≤ m → m ≤ s.size → acc.length ≤ m →
    Ev (fun k => spec_l1Split.l0 k s (c.toNat : Int) acc (from_ : Int) (m : Int)) (acc ++ (pre ((s.data.toList.take m).drop from_) (spl c (s.data.toList.drop m))).map str) := by
  have hl := size_len s
  induction d with
  | zero =>
    intro m from_ acc h1 h2 h3 h4
    obtain rfl : m = s.size := by omega
    rw [List.drop_eq_nil_of_le (Nat.le_of_eq hl.symm), spl, pre, List.append_nil, List.map_singleton, ← extract_str]
    refine Ev.step (fun k => by rw [spec_l1Split.l0]) (Ev.neg (by omega) (Ev.pos (by omega) (Ev.pos (by omega) (Ev.pos (by omega) ?_))))
    rw [Int.toNat_natCast]
    exact Ev.now _
  | succ d ih =>
    intro m from_ acc h1 h2 h3 h4
    have hm : m < s.data.toList.length := by omega
    have hw := wrap_up (m := m) (n := s.size) (by omega) (by omega)
    rw [List.drop_eq_getElem_cons hm, spl]
    have ht : (s.data.toList.take (m + 1)).drop from_ = (s.data.toList.take m).drop from_ ++ [s.data.toList[m]] := by
      rw [List.take_succ_eq_append_getElem hm, List.drop_append_of_le_length (by rw [List.length_take]; omega)]
    by_cases h : s.data.toList[m] = c
    · rw [if_pos h, pre, List.append_nil, List.map_cons, ← extract_str]
      refine Ev.step (fun k => by rw [spec_l1Split.l0]) (Ev.pos (by omega) (Ev.pos (by omega) (Ev.pos ?_ (Ev.pos (by omega) (Ev.pos (by omega) (Ev.pos (by omega) (Ev.pos (by omega) ?_)))))))
      · rw [bt_nat s m hm]; exact (toNat_inj _ _).2 h
      · rw [hw, Int.toNat_natCast, Int.toNat_natCast]
        have := ih (m + 1) (m + 1) (acc ++ [s.extract from_ m]) (by omega) (Nat.le_refl _) (by omega) (by rw [List.length_append, List.length_singleton]; omega)
        rw [List.drop_eq_nil_of_le (by rw [List.length_take]; omega), pre_nil (spl_ne _ _), List.append_assoc, List.singleton_append] at this
        exact this
    · rw [if_neg h, pre_pre, ← ht]
      refine Ev.step (fun k => by rw [spec_l1Split.l0]) (Ev.pos (by omega) (Ev.pos (by omega) (Ev.neg ?_ ?_)))
      · rw [bt_nat s m hm]; exact fun e => h ((toNat_inj _ _).1 e)
      · rw [hw]
        exact ih (m + 1) from_ acc (by omega) (by omega) (by omega) (by omega)
theorem split_ev (s : ByteArray) (c : UInt8) (hs : s.size ≤ 1048576) : Ev (fun k => spec_l1Split.f k s (c.toNat : Int)) ((spl c s.data.toList).map str) := by
  have := split_loop s c hs _ 0 0 [] rfl (Nat.le_refl _) (Nat.zero_le _) (Nat.zero_le _)
  rw [List.take_zero, List.drop_zero, List.drop_zero, pre_nil (spl_ne _ _), List.nil_append] at this
  exact this
theorem spl_head (c : UInt8) (l : List UInt8) : (spl c l).headD [] = (Lib.cut l [c]).1 := by
  have key : ∀ l : List UInt8, (spl c l).headD [] = if 0 ≤ Lib.indexByte l c then l.take (Lib.indexByte l c).toNat else l := by
    intro l
    induction l with
    | nil => simp [spl, Lib.indexByte]
    | cons b l ih =>
      have hg := Lib.indexByte_ge l c
      have hx : Lib.indexByte (b :: l) c = if b = c then 0 else if Lib.indexByte l c = -1 then -1 else Lib.indexByte l c + 1 := by
        rw [Lib.indexByte]
        simp only [beq_iff_eq]
      by_cases h : b = c
      · rw [if_pos h] at hx
        rw [hx, spl, if_pos h]
        simp
      · rw [if_neg h] at hx
        have hp : (pre [b] (spl c l)).headD [] = b :: (spl c l).headD [] := by
          cases hz : spl c l with
          | nil => exact absurd hz (spl_ne _ _)
          | cons x xs => simp [pre]
        rw [spl, if_neg h, hp, ih]
        by_cases h3 : Lib.indexByte l c = -1
        · rw [if_pos h3] at hx
          rw [hx, h3, if_neg (by decide), if_neg (by decide)]
        · rw [if_neg h3] at hx
          rw [hx, if_pos (by omega), if_pos (by omega), show (Lib.indexByte l c + 1).toNat = (Lib.indexByte l c).toNat + 1 by omega, List.take_succ_cons]
  rw [key, Lib.cut, Lib.index_one]
  split <;> rfl
/-- The text ahead of the first #. -/
def headB (s : ByteArray) : ByteArray := str (Lib.cut s.data.toList [35]).1
theorem headB_le (s : ByteArray) : (headB s).size ≤ s.size := by
  rw [headB, str_size, size_len, Lib.cut]
  split
  · exact List.length_take_le' _ _
  · exact Nat.le_refl _
theorem headB_free (s : ByteArray) : ¬ (35 : UInt8) ∈ (headB s).data.toList := by
  have e : (headB s).data.toList = (Lib.cut s.data.toList [35]).1 := by simp [headB, str]
  rw [e, ← spl_head]
  have key : ∀ l : List UInt8, ¬ (35 : UInt8) ∈ (spl 35 l).headD [] := by
    intro l
    induction l with
    | nil => simp [spl]
    | cons b l ih =>
      rw [spl]
      by_cases h : b = 35
      · rw [if_pos h]; simp
      · rw [if_neg h]
        cases hz : spl 35 l with
        | nil => exact absurd hz (spl_ne _ _)
        | cons x xs =>
          rw [hz] at ih
          simp only [pre, List.headD_cons, List.singleton_append, List.mem_cons, not_or] at ih ⊢
          exact ⟨fun e => h e.symm, ih⟩
  exact key _
/-- What VerifyChecksum answers. -/
def verR (s : ByteArray) : ByteArray × Bool := if s.size ≤ 4000 ∧ sealB (headB s) = s then (headB s, true) else (⟨#[]⟩, false)
theorem spec_VerifyChecksum_ev (s : ByteArray) (hs : s.size ≤ 1048576) : Ev (fun k => spec_VerifyChecksum.f k s) (verR s) := by
  unfold spec_VerifyChecksum.f
  by_cases h1 : s.size ≤ 4000
  · refine Ev.neg (by omega) ?_
    refine Ev.bind (split_ev s 35 hs) ?_
    have hne : (spl 35 s.data.toList).map str ≠ [] := fun e => spl_ne _ _ (List.map_eq_nil_iff.1 e)
    have hh : rdOf ByteArray.empty ((spl 35 s.data.toList).map str) 0 = headB s := by
      rw [headB, ← spl_head]
      cases hz : spl 35 s.data.toList with
      | nil => exact absurd hz (spl_ne _ _)
      | cons x xs => simp [rdOf]
    refine Ev.pos (by have := List.length_pos_iff.2 hne; omega) ?_
    rw [hh]
    have hb := headB_le s
    refine Ev.bind (seal_ev (headB s) (by omega)) ?_
    by_cases h2 : sealB (headB s) = s
    · rw [show verR s = (headB s, true) from if_pos ⟨h1, h2⟩]
      exact Ev.pos ((str_eq_iff _ _).2 h2) (Ev.now _)
    · rw [show verR s = (⟨#[]⟩, false) from if_neg (fun h => h2 h.2)]
      exact Ev.neg (fun h => h2 ((str_eq_iff _ _).1 h)) (Ev.now _)
  · rw [show verR s = (⟨#[]⟩, false) from if_neg (fun h => h1 h.1)]
    exact Ev.pos (by omega) (Ev.now _)
end Go.Proofs.YtcjfmohmjhjpoaaDoor.P
namespace Go.Proofs.YtcjfmohmjhjpoaaDoor.P
open Go.RowKit Go.Proofs.YtcjfmohmjhjpoaaDoorW.PrintWords Go.Proofs.YtcjfmohmjhjpoaaDoorW.PrintLast Go.Proofs.YtcjfmohmjhjpoaaDoorW.PrintMore
theorem contains_calls (s : ByteArray) (c : UInt8) (w : World) : Calls Tryd.prog 43 #[.string s, .string ⟨#[c]⟩] w fun e w' => e = .returned (.bool (decide (c ∈ s.data.toList))) ∧ w' = w :=
  (Tryd.strings_Contains_one s c w).mono fun e w' h => ⟨by rw [← idx_mem]; exact h.1, h.2⟩
set_option maxRecDepth 100000 in
set_option maxHeartbeats 2000000 in
theorem impl_AppendChecksum_calls (s : ByteArray) (hs : s.size ≤ 1048576) (w : World) (hp : Pow w) :
    Calls Tryd.prog 18 #[.string s] w fun e w' => e = .returned (.tuple #[.string (appR s).1, .bool (appR s).2]) ∧ Below w.heap.size w w' := by
  have HB := zM (Below.refl w.heap.size w)
  by_cases h1 : s.size ≤ 4000
  case neg =>
    have hr : appR s = (⟨#[]⟩, false) := if_neg (fun h => h1 h.1)
    rw [hr]
    have c1 : decide ((s.size : Int) > 4000) = true := decide_eq_true (by omega)
    have c2 : decide (4000 < s.size) = true := decide_eq_true (by omega)
    have c3 : decide ((4000 : Int) < (s.size : Int)) = true := decide_eq_true (by omega)
    go_enter Tryd.func18, Tryd.ntmps18
    go_wp2
    go_ret2
    exact ⟨by first | rfl | (simp; done), by first | exact HB.out | exact below_drew HB.out⟩
  have c1 : decide ((s.size : Int) > 4000) = false := decide_eq_false (by omega)
  have c2 : decide (4000 < s.size) = false := decide_eq_false (by omega)
  have c3 : decide ((4000 : Int) < (s.size : Int)) = false := decide_eq_false (by omega)
  by_cases h2 : (35 : UInt8) ∈ s.data.toList
  case pos =>
    have hr : appR s = (⟨#[]⟩, false) := if_neg (fun h => h.2.1 h2)
    rw [hr]
    have c4 : decide ((35 : UInt8) ∈ s.data.toList) = true := decide_eq_true h2
    go_enter Tryd.func18, Tryd.ntmps18
    go_wp2_with (go_at_call 43; refine (contains_calls s 35 _).mono ?_; rw [c4]; rintro e w' ⟨rfl, rfl⟩)
    go_ret2
    exact ⟨by first | rfl | (simp; done), by first | exact HB.out | exact below_drew HB.out⟩
  have c4 : decide ((35 : UInt8) ∈ s.data.toList) = false := decide_eq_false h2
  obtain ⟨k, hk⟩ := (impl_checksum_ev s hs).rounds
  have hrg := sumI_range s
  have hil := Lib.itoa_length_le (sumI s) (by omega) (by omega)
  have hsz := seal_size s
  have d1 : (9223372036854775807 < s.size + 1) = False := eq_false (by omega)
  have d2 : (9223372036854775807 < s.size + 1 + (str (Lib.itoa (sumI s))).size) = False := eq_false (by rw [str_size]; omega)
  have e1 : (s ++ (⟨#[35]⟩ : ByteArray)) ++ str (Lib.itoa (sumI s)) = sealB s := rfl
  have e2 : (s.size + 1 + (str (Lib.itoa (sumI s))).size) = (sealB s).size := by rw [str_size]; exact hsz.symm
  by_cases h3 : (sealB s).size ≤ 4000
  · have hr : appR s = (sealB s, true) := if_pos ⟨h1, h2, h3⟩
    rw [hr]
    have c5 : decide (((sealB s).size : Int) > 4000) = false := decide_eq_false (by omega)
    have c6 : decide ((4000 : Int) < ((sealB s).size : Int)) = false := decide_eq_false (by omega)
    have c7 : decide (4000 < s.size + 1 + (str (Lib.itoa (sumI s))).size) = false := decide_eq_false (by omega)
    have c8 : decide ((4000 : Int) < (s.size : Int) + 1 + ((str (Lib.itoa (sumI s))).size : Int)) = false := decide_eq_false (by omega)
    go_enter Tryd.func18, Tryd.ntmps18
    go_wp2_with (first
      | (go_at_call 43; refine (contains_calls s 35 _).mono ?_; rw [c4]; rintro e w' ⟨rfl, rfl⟩)
      | (go_at_call 44; refine (impl_checksum.calls k s (sumI s) _ hk).mono ?_; rintro e w' ⟨rfl, ⟨nd, rfl⟩⟩)
      | (go_at_call 37; refine (itoa_calls (sumI s) (by omega) (by omega) _ (pow_below hp (by first | exact HB.out | exact below_drew HB.out | exact pw_below_drewN HB.out _))).mono ?_; rintro e w' ⟨rfl, hb⟩; replace HB := zM (below_step (by first | exact HB.out | exact below_drew HB.out | exact pw_below_drewN HB.out _) hb); clear hb))
    go_ret2
    exact ⟨by first | rfl | (simp; done), by first | exact HB.out | exact below_drew HB.out⟩
  · have hr : appR s = (⟨#[]⟩, false) := if_neg (fun h => h3 h.2.2)
    rw [hr]
    have c5 : decide (((sealB s).size : Int) > 4000) = true := decide_eq_true (by omega)
    have c6 : decide ((4000 : Int) < ((sealB s).size : Int)) = true := decide_eq_true (by omega)
    have c7 : decide (4000 < s.size + 1 + (str (Lib.itoa (sumI s))).size) = true := decide_eq_true (by omega)
    have c8 : decide ((4000 : Int) < (s.size : Int) + 1 + ((str (Lib.itoa (sumI s))).size : Int)) = true := decide_eq_true (by omega)
    go_enter Tryd.func18, Tryd.ntmps18
    go_wp2_with (first
      | (go_at_call 43; refine (contains_calls s 35 _).mono ?_; rw [c4]; rintro e w' ⟨rfl, rfl⟩)
      | (go_at_call 44; refine (impl_checksum.calls k s (sumI s) _ hk).mono ?_; rintro e w' ⟨rfl, ⟨nd, rfl⟩⟩)
      | (go_at_call 37; refine (itoa_calls (sumI s) (by omega) (by omega) _ (pow_below hp (by first | exact HB.out | exact below_drew HB.out | exact pw_below_drewN HB.out _))).mono ?_; rintro e w' ⟨rfl, hb⟩; replace HB := zM (below_step (by first | exact HB.out | exact below_drew HB.out | exact pw_below_drewN HB.out _) hb); clear hb))
    go_ret2
    exact ⟨by first | rfl | (simp; done), by first | exact HB.out | exact below_drew HB.out⟩
end Go.Proofs.YtcjfmohmjhjpoaaDoor.P
namespace Go.Proofs.YtcjfmohmjhjpoaaDoor.P
open Go.RowKit Go.Proofs.YtcjfmohmjhjpoaaDoorW.PrintWords Go.Proofs.YtcjfmohmjhjpoaaDoorW.PrintLast Go.Proofs.YtcjfmohmjhjpoaaDoorW.PrintMore
theorem cut_calls (s : ByteArray) (hs : s.size ≤ 1048576) (m : Int) (w : World) (hm : w.cell? ⟨0, 0, none⟩ = some (.int .i64 m)) :
    Calls Tryd.prog 45 #[.string s, .string ⟨#[35]⟩] w fun e w' => ∃ (b : ByteArray) (f : Bool), e = .returned (.tuple #[.string (headB s), .string b, .bool f]) ∧ Below w.heap.size w w' :=
  (Tryd.strings_Cut s ⟨#[35]⟩ m w (by omega) hm).mono fun e w' h => ⟨_, _, h.1, by obtain ⟨_, n, rfl⟩ := h; exact pw_below_drewN (Below.refl _ _) n⟩
set_option maxRecDepth 100000 in
set_option maxHeartbeats 2000000 in
theorem impl_VerifyChecksum_calls (s : ByteArray) (hs : s.size ≤ 1048576) (m : Int) (w : World) (hm : w.cell? ⟨0, 0, none⟩ = some (.int .i64 m)) (hp : Pow w) :
    Calls Tryd.prog 20 #[.string s] w fun e w' => e = .returned (.tuple #[.string (verR s).1, .bool (verR s).2]) ∧ Below w.heap.size w w' := by
  have HB := zM (Below.refl w.heap.size w)
  have hhl := headB_le s
  have hfree := headB_free s
  by_cases h1 : (headB s).size ≤ 4000 ∧ (sealB (headB s)).size ≤ 4000
  case neg =>
    have hr : verR s = (⟨#[]⟩, false) := if_neg (fun h => h1 ⟨by omega, by rw [h.2]; exact h.1⟩)
    have ha : appR (headB s) = (⟨#[]⟩, false) := if_neg (fun h => h1 ⟨h.1, h.2.2⟩)
    rw [hr]
    go_enter Tryd.func20, Tryd.ntmps20
    go_wp2_with (first
      | (go_at_call 45; refine (cut_calls s hs m _ hm).mono ?_; rintro e w' ⟨b, f, rfl, hb⟩; replace HB := zM (below_step HB.out hb); clear hb)
      | (go_at_call 18; refine (impl_AppendChecksum_calls (headB s) (by omega) _ (pow_below hp (by first | exact HB.out | exact below_drew HB.out))).mono ?_; rw [ha]; rintro e w' ⟨rfl, hb⟩; replace HB := zM (below_step (by first | exact HB.out | exact below_drew HB.out) hb); clear hb))
    go_ret2
    exact ⟨by first | rfl | (simp; done), by first | exact HB.out | exact below_drew HB.out⟩
  have ha : appR (headB s) = (sealB (headB s), true) := if_pos ⟨h1.1, hfree, h1.2⟩
  by_cases h2 : sealB (headB s) = s
  · have hr : verR s = (headB s, true) := if_pos ⟨by rw [← h2]; exact h1.2, h2⟩
    rw [hr]
    have c6 := (str_eq_iff _ _).2 h2
    have c6b0 : ((sealB (headB s)).toList == s.toList) = true := beq_iff_eq.mpr c6
    have c6b1 : ((sealB (headB s)).toList != s.toList) = false := bne_eq_false_iff_eq.mpr c6
    go_enter Tryd.func20, Tryd.ntmps20
    go_wp2_with (first
      | (go_at_call 45; refine (cut_calls s hs m _ hm).mono ?_; rintro e w' ⟨b, f, rfl, hb⟩; replace HB := zM (below_step HB.out hb); clear hb)
      | (go_at_call 18; refine (impl_AppendChecksum_calls (headB s) (by omega) _ (pow_below hp (by first | exact HB.out | exact below_drew HB.out))).mono ?_; rw [ha]; rintro e w' ⟨rfl, hb⟩; replace HB := zM (below_step (by first | exact HB.out | exact below_drew HB.out) hb); clear hb))
    go_ret2
    exact ⟨by first | rfl | (simp; done), by first | exact HB.out | exact below_drew HB.out⟩
  · have hr : verR s = (⟨#[]⟩, false) := if_neg (fun h => h2 h.2)
    rw [hr]
    have c6 : ¬ (sealB (headB s)).toList = s.toList := fun h => h2 ((str_eq_iff _ _).1 h)
    have c6b0 : ((sealB (headB s)).toList == s.toList) = false := beq_eq_false_iff_ne.mpr c6
    have c6b1 : ((sealB (headB s)).toList != s.toList) = true := bne_iff_ne.mpr c6
    go_enter Tryd.func20, Tryd.ntmps20
    go_wp2_with (first
      | (go_at_call 45; refine (cut_calls s hs m _ hm).mono ?_; rintro e w' ⟨b, f, rfl, hb⟩; replace HB := zM (below_step HB.out hb); clear hb)
      | (go_at_call 18; refine (impl_AppendChecksum_calls (headB s) (by omega) _ (pow_below hp (by first | exact HB.out | exact below_drew HB.out))).mono ?_; rw [ha]; rintro e w' ⟨rfl, hb⟩; replace HB := zM (below_step (by first | exact HB.out | exact below_drew HB.out) hb); clear hb))
    go_ret2
    exact ⟨by first | rfl | (simp; done), by first | exact HB.out | exact below_drew HB.out⟩
end Go.Proofs.YtcjfmohmjhjpoaaDoor.P
