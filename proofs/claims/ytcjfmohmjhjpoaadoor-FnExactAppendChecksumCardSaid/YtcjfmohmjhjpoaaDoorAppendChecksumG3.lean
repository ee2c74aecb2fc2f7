/- Checksums, stands, seals and splits of strings in plain words; both sides' loops compute them. -/
import Derived.Test.YtcjfmohmjhjpoaaDoorAppendChecksumG2
import Derived.Lib.IndexMore
namespace Go.Proofs.YtcjfmohmjhjpoaaDoor.P
open Go.RowKit Go.Proofs.YtcjfmohmjhjpoaaDoorW.PrintWords Go.Proofs.YtcjfmohmjhjpoaaDoorW.PrintLast Go.Proofs.YtcjfmohmjhjpoaaDoorW.PrintMore
theorem bt_nat (s : ByteArray) (m : Nat) (h : m < s.data.toList.length) : bt s (m : Int) = ((s.data.toList[m]).toNat : Int) := by
  have h2 : m < s.size := by rw [Array.length_toList] at h; exact h
  unfold bt
  rw [dif_pos (by rw [Int.toNat_natCast]; exact h2)]
  simp [ByteArray.getElem_eq_getElem_data]
theorem size_len (s : ByteArray) : s.size = s.data.toList.length := (Array.length_toList).symm
/-- The checksum from place i on, of n bytes. -/
def sumF (s : ByteArray) : Nat → Int → Int → Int
  | 0, h, _ => h
  | n + 1, h, i => sumF s n (Int.tmod (wrap64 ((wrap64 ((wrap64 (41 * h)) + (wrap64 (bt s i)))) + 1)) 999979) (i + 1)
def sumI (s : ByteArray) : Int := sumF s s.size 7 0
theorem sumF_range (s : ByteArray) (n : Nat) : ∀ h i, -999979 < h → h < 999979 → -999979 < sumF s n h i ∧ sumF s n h i < 999979 := by
  induction n with
  | zero => intro h i h1 h2; exact ⟨h1, h2⟩
  | succ n ih =>
    intro h i h1 h2
    exact ih _ _ (Int.lt_tmod_of_pos _ (by decide)) (Int.tmod_lt_of_pos _ (by decide))
theorem sumI_range (s : ByteArray) : -999979 < sumI s ∧ sumI s < 999979 := sumF_range s _ _ _ (by decide) (by decide)
theorem specSum_loop (s : ByteArray) (hs : s.size ≤ 1048576) (n : Nat) : ∀ (h i : Int), 0 ≤ i → (s.size : Int) - i = n → Ev (fun k => spec_l1Sum.l0 k s h i) (sumF s n h i) := by
  induction n with
  | zero =>
    intro h i h0 hn
    rw [show sumF s 0 h i = h from rfl]
    exact Ev.step (fun k => by rw [spec_l1Sum.l0]) (Ev.neg (by omega) (Ev.now _))
  | succ n ih =>
    intro h i h0 hn
    refine Ev.step (fun k => by rw [spec_l1Sum.l0]) (Ev.pos (by omega) (Ev.pos h0 ?_))
    rw [wrap_nat (m := i + 1) (by omega) (by omega)]
    exact ih _ _ (by omega) (by omega)
theorem implSum_loop (s : ByteArray) (hs : s.size ≤ 1048576) (n : Nat) : ∀ (h i : Int), 0 ≤ i → (s.size : Int) - i = n → Ev (fun k => impl_checksum.l0 k s h (s.size : Int) i) (sumF s n h i) := by
  induction n with
  | zero =>
    intro h i h0 hn
    rw [show sumF s 0 h i = h from rfl]
    exact Ev.step (fun k => by rw [impl_checksum.l0]) (Ev.neg (by omega) (Ev.now _))
  | succ n ih =>
    intro h i h0 hn
    refine Ev.step (fun k => by rw [impl_checksum.l0]) (Ev.pos (by omega) (Ev.pos h0 (Ev.pos (by omega) ?_)))
    rw [wrap_nat (m := i + 1) (by omega) (by omega)]
    exact ih _ _ (by omega) (by omega)
theorem spec_l1Sum_ev (s : ByteArray) (hs : s.size ≤ 1048576) : Ev (fun k => spec_l1Sum.f k s) (sumI s) := specSum_loop s hs _ 7 0 (by omega) (by omega)
theorem impl_checksum_ev (s : ByteArray) (hs : s.size ≤ 1048576) : Ev (fun k => impl_checksum.f k s) (sumI s) := implSum_loop s hs _ 7 0 (by omega) (by omega)
theorem toNat_inj (a b : UInt8) : ((a.toNat : Int) = (b.toNat : Int)) ↔ a = b := by
  constructor
  · intro h
    exact UInt8.toNat_inj.1 (by omega)
  · intro h; rw [h]
theorem idx_mem (l : List UInt8) (c : UInt8) : decide (0 ≤ Lib.indexByte l c) = decide (c ∈ l) := by
  induction l with
  | nil => simp [Lib.indexByte]
  | cons b l ih =>
    have hg := Lib.indexByte_ge l c
    rw [Lib.indexByte]
    by_cases h : b = c
    · subst h; simp
    · rw [if_neg (by simpa using h)]
      have h2 : (c ∈ b :: l) ↔ (c ∈ l) := by
        rw [List.mem_cons]
        exact ⟨fun h3 => h3.resolve_left (fun e => h e.symm), .inr⟩
      rw [decide_eq_decide.2 h2, ← ih]
      by_cases h3 : Lib.indexByte l c = -1
      · rw [if_pos (by simp [h3]), h3]
      · rw [if_neg (by simpa using h3)]
        exact decide_eq_decide.2 (by omega)
theorem stands_loop (s : ByteArray) (c : UInt8) (hs : s.size ≤ 1048576) (d : Nat) : ∀ m : Nat, s.size - m = d → m ≤ s.size → Ev (fun k => spec_l1Stands.l0 k s (c.toNat : Int) (m : Int)) (decide (c ∈ s.data.toList.drop m)) := by
  have hl := size_len s
  induction d with
  | zero =>
    intro m h1 h2
    rw [List.drop_eq_nil_of_le (by omega), show decide (c ∈ ([] : List UInt8)) = false from rfl]
    exact Ev.step (fun k => by rw [spec_l1Stands.l0]) (Ev.neg (by omega) (Ev.now _))
  | succ d ih =>
    intro m h1 h2
    have hm : m < s.data.toList.length := by omega
    refine Ev.step (fun k => by rw [spec_l1Stands.l0]) (Ev.pos (by omega) (Ev.pos (by omega) ?_))
    rw [bt_nat s m hm, List.drop_eq_getElem_cons hm, wrap_up (m := m) (n := s.size) (by omega) (by omega)]
    by_cases h : s.data.toList[m] = c
    · rw [show decide (c ∈ s.data.toList[m] :: s.data.toList.drop (m + 1)) = true from decide_eq_true (by rw [h]; exact List.mem_cons_self ..)]
      exact Ev.pos ((toNat_inj _ _).2 h) (Ev.now _)
    · refine Ev.neg (fun e => h ((toNat_inj _ _).1 e)) ?_
      have h2 : (c ∈ s.data.toList[m] :: s.data.toList.drop (m + 1)) ↔ (c ∈ s.data.toList.drop (m + 1)) := by
        rw [List.mem_cons]
        exact ⟨fun h3 => h3.resolve_left (fun e => h e.symm), .inr⟩
      rw [decide_eq_decide.2 h2]
      exact ih (m + 1) (by omega) (by omega)
theorem stands_ev (s : ByteArray) (c : UInt8) (hs : s.size ≤ 1048576) : Ev (fun k => spec_l1Stands.f k s (c.toNat : Int)) (decide (c ∈ s.data.toList)) := by
  have := stands_loop s c hs _ 0 rfl (Nat.zero_le _)
  rwa [List.drop_zero] at this
/-- A text, the sign # and the numeral of its checksum. -/
def sealB (s : ByteArray) : ByteArray := (s ++ (⟨#[35]⟩ : ByteArray)) ++ str (Lib.itoa (sumI s))
theorem seal_size (s : ByteArray) : (sealB s).size = s.size + 1 + (Lib.itoa (sumI s)).length := by
  rw [sealB, ByteArray.size_append, ByteArray.size_append, str_size]
  rfl
theorem seal_ev (s : ByteArray) (hs : s.size ≤ 1048576) : Ev (fun k => spec_l1Seal.f k s) (sealB s) := by
  have h := sumI_range s
  have hl := Lib.itoa_length_le (sumI s) (by omega) (by omega)
  unfold spec_l1Seal.f
  refine Ev.pos (by omega) ?_
  refine Ev.bind (spec_l1Sum_ev s hs) ?_
  refine Ev.bind (num_any (sumI s) (by omega) (by omega)) ?_
  refine Ev.pos ?_ (Ev.now _)
  rw [ByteArray.size_append, str_size, show (⟨#[35]⟩ : ByteArray).size = 1 from rfl]
  omega
/-- What AppendChecksum answers. -/
def appR (s : ByteArray) : ByteArray × Bool := if s.size ≤ 4000 ∧ ¬ (35 : UInt8) ∈ s.data.toList ∧ (sealB s).size ≤ 4000 then (sealB s, true) else (⟨#[]⟩, false)
theorem spec_AppendChecksum_ev (s : ByteArray) (hs : s.size ≤ 1048576) : Ev (fun k => spec_AppendChecksum.f k s) (appR s) := by
  unfold spec_AppendChecksum.f appR
  by_cases h1 : s.size ≤ 4000
  · refine Ev.neg (by omega) ?_
    refine Ev.bind (stands_ev s 35 hs) ?_
    by_cases h2 : (35 : UInt8) ∈ s.data.toList
    · rw [if_neg (fun h => h.2.1 h2)]
      exact Ev.pos (decide_eq_true h2) (Ev.now _)
    · refine Ev.neg (by simpa using h2) ?_
      refine Ev.bind (seal_ev s hs) ?_
      by_cases h3 : (sealB s).size ≤ 4000
      · rw [if_pos ⟨h1, h2, h3⟩]
        refine Ev.neg (by omega) ?_
        exact Ev.bind (seal_ev s hs) (Ev.now _)
      · rw [if_neg (fun h => h3 h.2.2)]
        exact Ev.pos (by omega) (Ev.now _)
  · rw [if_neg (fun h => h1 h.1)]
    exact Ev.pos (by omega) (Ev.now _)
end Go.Proofs.YtcjfmohmjhjpoaaDoor.P
namespace Go.Proofs.YtcjfmohmjhjpoaaDoor.P
open Go.RowKit Go.Proofs.YtcjfmohmjhjpoaaDoorW.PrintWords Go.Proofs.YtcjfmohmjhjpoaaDoorW.PrintLast Go.Proofs.YtcjfmohmjhjpoaaDoorW.PrintMore
theorem contains_calls (s : ByteArray) (c : UInt8) (w : World) : Calls Tryd.prog 43 #[.string s, .string ⟨#[c]⟩] w fun e w' => e = .returned (.bool (decide (c ∈ s.data.toList))) ∧ w' = w :=
  (Tryd.strings_Contains_one s c w).mono fun e w' h => ⟨by rw [← idx_mem]; exact h.1, h.2⟩
set_option maxRecDepth 100000 in
set_option maxHeartbeats 2000000 in
theorem impl_AppendChecksum_calls (s : ByteArray) (hs : s.size ≤ 1048576) (w : World) (hp : Pow w) :
    Calls Tryd.prog 18 #[.string s] w fun e w' => e = .returned (.tuple #[.string (appR s).1, .bool (appR s).2]) ∧ Below w.heap.size w w' := by
  have HB := zM (Below.refl w.heap.size w)
  by_cases h1 : s.size ≤ 4000
  case neg =>
    have hr : appR s = (⟨#[]⟩, false) := if_neg (fun h => h1 h.1)
    rw [hr]
    have c1 : decide ((s.size : Int) > 4000) = true := decide_eq_true (by omega)
    have c2 : decide (4000 < s.size) = true := decide_eq_true (by omega)
    have c3 : decide ((4000 : Int) < (s.size : Int)) = true := decide_eq_true (by omega)
    go_enter Tryd.func18, Tryd.ntmps18
    go_wp2
    go_ret2
    exact ⟨by first | rfl | (simp; done), by first | exact HB.out | exact below_drew HB.out⟩
  have c1 : decide ((s.size : Int) > 4000) = false := decide_eq_false (by omega)
  have c2 : decide (4000 < s.size) = false := decide_eq_false (by omega)
  have c3 : decide ((4000 : Int) < (s.size : Int)) = false := decide_eq_false (by omega)
  by_cases h2 : (35 : UInt8) ∈ s.data.toList
  case pos =>
    have hr : appR s = (⟨#[]⟩, false) := if_neg (fun h => h.2.1 h2)
    rw [hr]
    have c4 : decide ((35 : UInt8) ∈ s.data.toList) = true := decide_eq_true h2
    go_enter Tryd.func18, Tryd.ntmps18
    go_wp2_with (go_at_call 43; refine (contains_calls s 35 _).mono ?_; rw [c4]; rintro e w' ⟨rfl, rfl⟩)
    go_ret2
    exact ⟨by first | rfl | (simp; done), by first | exact HB.out | exact below_drew HB.out⟩
  have c4 : decide ((35 : UInt8) ∈ s.data.toList) = false := decide_eq_false h2
  obtain ⟨k, hk⟩ := (impl_checksum_ev s hs).rounds
  have hrg := sumI_range s
  have hil := Lib.itoa_length_le (sumI s) (by omega) (by omega)
  have hsz := seal_size s
  have d1 : (9223372036854775807 < s.size + 1) = False := eq_false (by omega)
  have d2 : (9223372036854775807 < s.size + 1 + (str (Lib.itoa (sumI s))).size) = False := eq_false (by rw [str_size]; omega)
  have e1 : (s ++ (⟨#[35]⟩ : ByteArray)) ++ str (Lib.itoa (sumI s)) = sealB s := rfl
  have e2 : (s.size + 1 + (str (Lib.itoa (sumI s))).size) = (sealB s).size := by rw [str_size]; exact hsz.symm
  by_cases h3 : (sealB s).size ≤ 4000
  · have hr : appR s = (sealB s, true) := if_pos ⟨h1, h2, h3⟩
    rw [hr]
    have c5 : decide (((sealB s).size : Int) > 4000) = false := decide_eq_false (by omega)
    have c6 : decide ((4000 : Int) < ((sealB s).size : Int)) = false := decide_eq_false (by omega)
    have c7 : decide (4000 < s.size + 1 + (str (Lib.itoa (sumI s))).size) = false := decide_eq_false (by omega)
    have c8 : decide ((4000 : Int) < (s.size : Int) + 1 + ((str (Lib.itoa (sumI s))).size : Int)) = false := decide_eq_false (by omega)
    go_enter Tryd.func18, Tryd.ntmps18
    go_wp2_with (first
      | (go_at_call 43; refine (contains_calls s 35 _).mono ?_; rw [c4]; rintro e w' ⟨rfl, rfl⟩)
      | (go_at_call 44; refine (impl_checksum.calls k s (sumI s) _ hk).mono ?_; rintro e w' ⟨rfl, ⟨nd, rfl⟩⟩)
      | (go_at_call 37; refine (itoa_calls (sumI s) (by omega) (by omega) _ (pow_below hp (by first | exact HB.out | exact below_drew HB.out | exact pw_below_drewN HB.out _))).mono ?_; rintro e w' ⟨rfl, hb⟩; replace HB := zM (below_step (by first | exact HB.out | exact below_drew HB.out | exact pw_below_drewN HB.out _) hb); clear hb))
    go_ret2
    exact ⟨by first | rfl | (simp; done), by first | exact HB.out | exact below_drew HB.out⟩
  · have hr : appR s = (⟨#[]⟩, false) := if_neg (fun h => h3 h.2.2)
    rw [hr]
    have c5 : decide (((sealB s).size : Int) > 4000) = true := decide_eq_true (by omega)
    have c6 : decide ((4000 : Int) < ((sealB s).size : Int)) = true := decide_eq_true (by omega)
    have c7 : decide (4000 < s.size + 1 + (str (Lib.itoa (sumI s))).size) = true := decide_eq_true (by omega)
    have c8 : decide ((4000 : Int) < (s.size : Int) + 1 + ((str (Lib.itoa (sumI s))).size : Int)) = true := decide_eq_true (by omega)
    go_enter Tryd.func18, Tryd.ntmps18
    go_wp2_with (first
      | (go_at_call 43; refine (contains_calls s 35 _).mono ?_; rw [c4]; rintro e w' ⟨rfl, rfl⟩)
      | (go_at_call 44; refine (impl_checksum.calls k s (sumI s) _ hk).mono ?_; rintro e w' ⟨rfl, ⟨nd, rfl⟩⟩)
      | (go_at_call 37; refine (itoa_calls (sumI s) (by omega) (by omega) _ (pow_below hp (by first | exact HB.out | exact below_drew HB.out | exact pw_below_drewN HB.out _))).mono ?_; rintro e w' ⟨rfl, hb⟩; replace HB := zM (below_step (by first | exact HB.out | exact below_drew HB.out | exact pw_below_drewN HB.out _) hb); clear hb))
    go_ret2
    exact ⟨by first | rfl | (simp; done), by first | exact HB.out | exact below_drew HB.out⟩
end Go.Proofs.YtcjfmohmjhjpoaaDoor.P
