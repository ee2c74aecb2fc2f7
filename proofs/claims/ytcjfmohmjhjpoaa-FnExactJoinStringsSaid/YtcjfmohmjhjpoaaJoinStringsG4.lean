/- JoinStrings of both sides, in plain words, and impl's, walked. -/
import Derived.Test.YtcjfmohmjhjpoaaJoinStringsG3
import Derived.Lib.Join
import Derived.Lib.SplitLaws
import Derived.Below
import Derived.Handy
import Derived.ProofKit
import Derived.OpenShut
import Derived.SliceStrings
namespace Go.Proofs.Ytcjfmohmjhjpoaa.P
open Go.RowKit Go.Proofs.YtcjfmohmjhjpoaaW.PrintWords Go.Proofs.YtcjfmohmjhjpoaaW.PrintLast Go.Proofs.YtcjfmohmjhjpoaaW.PrintMore
/-- What stands already, with the further texts behind it, p ahead of each. -/
def jtail (p : ByteArray) (acc : ByteArray) : List ByteArray → ByteArray
  | [] => acc
  | x :: r => jtail p ((acc ++ p) ++ x) r
def joinB (p : ByteArray) : List ByteArray → ByteArray
  | [] => ⟨#[]⟩
  | x :: r => jtail p x r
def sizes : List ByteArray → Nat
  | [] => 0
  | x :: r => x.size + sizes r
theorem sizes_append (a b : List ByteArray) : sizes (a ++ b) = sizes a + sizes b := by
  induction a with
  | nil => simp [sizes]
  | cons x r ih => simp [sizes, ih]; omega
theorem jtail_size (p : ByteArray) (h : p.size = 1) (r : List ByteArray) : ∀ acc, (jtail p acc r).size = acc.size + sizes r + r.length := by
  induction r with
  | nil => intro acc; simp [jtail, sizes]
  | cons x r ih => intro acc; rw [jtail, ih, ByteArray.size_append, ByteArray.size_append, sizes, List.length_cons]; omega
theorem joinB_size (p : ByteArray) (h : p.size = 1) (l : List ByteArray) (hl : l ≠ []) : (joinB p l).size + 1 = sizes l + l.length := by
  cases l with
  | nil => exact absurd rfl hl
  | cons x r => rw [joinB, jtail_size p h, sizes, List.length_cons]; omega
theorem jtail_str (p : ByteArray) (r : List ByteArray) : ∀ acc, (jtail p acc r).data.toList = acc.data.toList ++ Lib.joinTail p.data.toList (r.map (·.data.toList)) := by
  induction r with
  | nil => intro acc; simp [jtail, Lib.joinTail]
  | cons x r ih =>
    intro acc
    rw [jtail, ih]
    simp [Lib.joinTail]
def clean (c : UInt8) (l : List ByteArray) : Bool := !(l.any fun x => decide (c ∈ x.data.toList))
theorem clean_cons (c : UInt8) (x : ByteArray) (l : List ByteArray) : clean c (x :: l) = (!decide (c ∈ x.data.toList) && clean c l) := by simp [clean]
/-- What JoinStrings answers. -/
def joinR (l : List ByteArray) (p : ByteArray) : ByteArray × Bool := if p.size = 1 ∧ l ≠ [] ∧ clean (p.data.toList.headD 0) l = true ∧ (joinB p l).size ≤ 4000 then (joinB p l, true) else (⟨#[]⟩, false)
def tailR (c : UInt8) (p acc : ByteArray) (r : List ByteArray) : ByteArray × Bool := if clean c r = true ∧ (jtail p acc r).size ≤ 4000 then (jtail p acc r, true) else (⟨#[]⟩, false)
theorem rdS_at (l : List ByteArray) (m : Nat) (h : m < l.length) : rdOf ByteArray.empty l (m : Int) = l[m] := by simp [rdOf, List.getD_eq_getElem?_getD, List.getElem?_eq_getElem h]
theorem sizes_at (l : List ByteArray) (m : Nat) (h : m < l.length) : l[m].size ≤ sizes l := by
  have e : sizes l = sizes (l.take m ++ (l[m] :: l.drop (m + 1))) := by rw [← List.drop_eq_getElem_cons h, List.take_append_drop]
  rw [e, sizes_append, sizes]; omega
theorem join_loop (l : List ByteArray) (c : UInt8) (hl : l.length ≤ 1048576) (hs : sizes l ≤ 1048576) (d : Nat) : ∀ (m : Nat) (acc : ByteArray), l.length - m = d → 0 < m → m ≤ l.length → acc.size ≤ 4000 →
    Ev (fun k => spec_JoinStrings.l0 k l ⟨#[c]⟩ acc (m : Int)) (tailR c ⟨#[c]⟩ acc (l.drop m)) := by
  have hp : (⟨#[c]⟩ : ByteArray).size = 1 := rfl
  have hb : bt ⟨#[c]⟩ 0 = (c.toNat : Int) := rfl
  induction d with
  | zero =>
    intro m acc h1 h2 h3 h4
    rw [List.drop_eq_nil_of_le (by omega), show tailR c ⟨#[c]⟩ acc [] = (acc, true) from if_pos ⟨rfl, h4⟩]
    exact Ev.step (fun k => by rw [spec_JoinStrings.l0]) (Ev.neg (by omega) (Ev.now _))
  | succ d ih =>
    intro m acc h1 h2 h3 h4
    have hm : m < l.length := by omega
    have hx := sizes_at l m hm
    rw [List.drop_eq_getElem_cons hm]
    refine Ev.step (fun k => by rw [spec_JoinStrings.l0]) (Ev.pos (by omega) ?_)
    rw [rdS_at l m hm]
    refine Ev.pos (by omega) (Ev.pos (by rw [hp]; decide) ?_)
    rw [hb]
    refine Ev.bind (stands_ev l[m] c (by omega)) ?_
    by_cases h : c ∈ l[m].data.toList
    · rw [show tailR c ⟨#[c]⟩ acc (l[m] :: l.drop (m + 1)) = (⟨#[]⟩, false) from if_neg (fun e => by rw [clean_cons, decide_eq_true h] at e; simp at e)]
      exact Ev.pos (decide_eq_true h) (Ev.now _)
    · refine Ev.neg (by simpa using h) (Ev.pos (by omega) (Ev.pos (by rw [hp]; omega) ?_))
      have hsz : ((acc ++ (⟨#[c]⟩ : ByteArray)) ++ l[m]).size = acc.size + 1 + l[m].size := by rw [ByteArray.size_append, ByteArray.size_append, hp]
      refine Ev.pos (by rw [ByteArray.size_append, hp]; omega) ?_
      by_cases hg : ((acc ++ (⟨#[c]⟩ : ByteArray)) ++ l[m]).size > 4000
      · rw [show tailR c ⟨#[c]⟩ acc (l[m] :: l.drop (m + 1)) = (⟨#[]⟩, false) from if_neg (fun e => by
          have := e.2
          rw [jtail, jtail_size _ hp] at this
          omega)]
        exact Ev.pos (by omega) (Ev.now _)
      · refine Ev.neg (by omega) ?_
        rw [wrap_up (m := m) (n := l.length) (by omega) (by omega)]
        have e : tailR c ⟨#[c]⟩ acc (l[m] :: l.drop (m + 1)) = tailR c ⟨#[c]⟩ ((acc ++ (⟨#[c]⟩ : ByteArray)) ++ l[m]) (l.drop (m + 1)) := by
          unfold tailR
          rw [clean_cons, decide_eq_false h, jtail]
          simp
        rw [e]
        exact ih (m + 1) _ (by omega) (by omega) (by omega) (by omega)
theorem spec_JoinStrings_ev (l : List ByteArray) (p : ByteArray) (hl : l.length ≤ 1048576) (hs : sizes l ≤ 1048576) : Ev (fun k => spec_JoinStrings.f k l p) (joinR l p) := by
  unfold spec_JoinStrings.f
  by_cases h1 : p.size = 1
  case neg =>
    rw [show joinR l p = (⟨#[]⟩, false) from if_neg (fun h => h1 h.1)]
    exact Ev.neg (by omega) (Ev.step (fun k => by rw [spec_JoinStrings.j0]) (Ev.pos rfl (Ev.now _)))
  refine Ev.pos (by omega) ?_
  obtain ⟨c, rfl⟩ := Lib.one_byte p h1
  have hp : (⟨#[c]⟩ : ByteArray).size = 1 := rfl
  have hb : bt ⟨#[c]⟩ 0 = (c.toNat : Int) := rfl
  cases l with
  | nil =>
    rw [show joinR [] ⟨#[c]⟩ = (⟨#[]⟩, false) from if_neg (fun h => h.2.1 rfl)]
    exact Ev.step (fun k => by rw [spec_JoinStrings.j0]) (Ev.pos (show ((([] : List ByteArray).length : Int) == 0) = true from rfl) (Ev.now _))
  | cons x r =>
    have hx : x.size ≤ 1048576 := by rw [sizes] at hs; omega
    refine Ev.step (fun k => by rw [spec_JoinStrings.j0]) (Ev.neg (by simp; omega) ?_)
    refine Ev.step (fun k => by rw [spec_JoinStrings.l0]) (Ev.pos (by rw [List.length_cons]; omega) ?_)
    rw [show rdOf ByteArray.empty (x :: r) 0 = x from rfl]
    refine Ev.pos (by decide) (Ev.pos (by rw [hp]; decide) ?_)
    rw [hb]
    refine Ev.bind (stands_ev x c hx) ?_
    have hj : joinR (x :: r) ⟨#[c]⟩ = if decide (c ∈ x.data.toList) = true then (⟨#[]⟩, false) else tailR c ⟨#[c]⟩ x r := by
      unfold joinR tailR
      rw [show ((⟨#[c]⟩ : ByteArray).data.toList.headD 0) = c from rfl, clean_cons, joinB]
      by_cases h : c ∈ x.data.toList
      · simp [h]
      · simp [h, hp]
    have he : (⟨#[]⟩ : ByteArray) ++ x = x := by
      apply ByteArray.ext
      simp
    rw [hj]
    by_cases h : c ∈ x.data.toList
    · rw [if_pos (decide_eq_true h)]
      exact Ev.pos (decide_eq_true h) (Ev.now _)
    · rw [if_neg (by simpa using h)]
      refine Ev.neg (by simpa using h) (Ev.neg (by decide) (Ev.pos ?_ ?_))
      · rw [show (⟨#[]⟩ : ByteArray).size = 0 from rfl]; omega
      · rw [he]
        by_cases hg : x.size > 4000
        · rw [show tailR c ⟨#[c]⟩ x r = (⟨#[]⟩, false) from if_neg (fun e => by
            have := e.2
            rw [jtail_size _ hp] at this
            omega)]
          exact Ev.pos (by omega) (Ev.now _)
        · refine Ev.neg (by omega) ?_
          have := join_loop (x :: r) c hl hs _ 1 x rfl (by decide) (by rw [List.length_cons]; omega) (by omega)
          rw [show wrap64 (0 + 1) = ((1 : Nat) : Int) from wrap_up (m := 0) (n := 1) (by decide) (by decide)]
          exact this
theorem join_lib (p : ByteArray) (l : List ByteArray) : (⟨(Lib.join (l.map (·.data.toList)) p.data.toList).toArray⟩ : ByteArray) = joinB p l := by
  cases l with
  | nil => rfl
  | cons x r =>
    have h := jtail_str p r x
    have e : Lib.join ((x :: r).map (·.data.toList)) p.data.toList = (jtail p x r).data.toList := by
      rw [h, List.map_cons]
      exact Lib.join_cons _ _ _
    rw [e]
    exact str_data _
end Go.Proofs.Ytcjfmohmjhjpoaa.P
namespace Go.Proofs.Ytcjfmohmjhjpoaa.P
open Go.RowKit Go.Proofs.YtcjfmohmjhjpoaaW.PrintWords Go.Proofs.YtcjfmohmjhjpoaaW.PrintLast Go.Proofs.YtcjfmohmjhjpoaaW.PrintMore
set_option linter.unusedVariables false
set_option linter.unusedSimpArgs false
theorem containsJ_calls (s : ByteArray) (c : UInt8) (w : World) : Calls Try.prog 21 #[.string s, .string ⟨#[c]⟩] w fun e w' => e = .returned (.bool (decide (c ∈ s.data.toList))) ∧ w' = w :=
  (Try.strings_Contains_one s c w).mono fun e w' h => ⟨by rw [← idx_mem]; exact h.1, h.2⟩
set_option maxRecDepth 100000 in
theorem join1_at (gb : Nat) (c : UInt8) (l : List ByteArray) (w : World) (hc : w.cell? ⟨gb, 0, none⟩ = some (.string ⟨#[c]⟩)) : PredS 20 #[.pointer (some ⟨gb, 0, none⟩)] Value.string (fun x => decide (c ∈ x.data.toList)) l w := by
  intro W x hx hb
  have hcell := pw_cell_below hb hc
  clear hc hb hx
  have HB := zM (Below.refl W.heap.size W)
  show Calls Try.prog 20 #[.string x, .pointer (some ⟨gb, 0, none⟩)] W _
  go_enter Try.func20, Try.ntmps20
  go_wp2_with (go_at_call 21; refine (containsJ_calls x c _).mono ?_; rintro e w' ⟨rfl, rfl⟩)
  go_ret
  exact ⟨by first | rfl | (simp; done), HB.out⟩
theorem gt_yes (u : Nat) (h : 4000 < u) : decide ((u : Int) > 4000) = true ∧ decide ((4000 : Int) < (u : Int)) = true ∧ decide (4000 < u) = true := ⟨decide_eq_true (by omega), decide_eq_true (by omega), decide_eq_true h⟩
theorem gt_no (u : Nat) (h : ¬ 4000 < u) : decide ((u : Int) > 4000) = false ∧ decide ((4000 : Int) < (u : Int)) = false ∧ decide (4000 < u) = false := ⟨decide_eq_false (by omega), decide_eq_false (by omega), decide_eq_false h⟩
theorem add_sizes (t x u : Nat) (hu : t + x = u) (h : u ≤ 9000000) : (t : Int) + (x : Int) = (u : Int) ∧ wrap64 (u : Int) = (u : Int) ∧ wrap64 ((t : Int) + (x : Int)) = (u : Int) := by
  have a1 : (t : Int) + (x : Int) = (u : Int) := by omega
  have a2 : wrap64 (u : Int) = (u : Int) := wrap_nat (by omega) (by omega)
  exact ⟨a1, a2, by rw [a1, a2]⟩
theorem sizes_take (l : List ByteArray) (m : Nat) (h : m < l.length) : sizes (l.take (m + 1)) = sizes (l.take m) + l[m].size := by
  rw [List.take_succ_eq_append_getElem h, sizes_append]; simp [sizes]
theorem sizes_take_le (l : List ByteArray) (m : Nat) : sizes (l.take m) ≤ sizes l := by
  have e : sizes l = sizes (l.take m ++ l.drop m) := by rw [List.take_append_drop]
  rw [e, sizes_append]; omega
set_option maxRecDepth 100000 in
set_option maxHeartbeats 4000000 in
theorem impl_JoinStrings_calls (A : Option Addr) (cp : Nat) (l : List ByteArray) (p : ByteArray) (w : World) (hA : l ≠ [] → ∃ bk, A = some ⟨bk, 0, none⟩) (hr : Kd.C Kd.string w A l.length l) (hc : l.length ≤ cp) (hl : l.length ≤ 1048576) (hs : sizes l ≤ 1048576) :
    Calls Try.prog 14 #[.slice A l.length cp, .string p] w fun e w' => e = .returned (.tuple #[.string (joinR l p).1, .bool (joinR l p).2]) ∧ Below w.heap.size w w' := by
  have HB := zM (Below.refl w.heap.size w)
  have HR := zM hr
  have HC := zM hc
  have HL := zM hl
  have HS := zM hs
  by_cases hn : l = []
  · subst hn
    rw [show joinR [] p = (⟨#[]⟩, false) from if_neg (fun h => h.2.1 rfl)]
    clear hr hc hl hs hA
    have n0 : ((([] : List ByteArray).length : Int) == 0) = true := rfl
    have n1 : ([] : List ByteArray).length = 0 := rfl
    go_enter Try.func14, Try.ntmps14
    go_wp2_with ((with_reducible refine gate_dst (N := 3) rfl ?_); refine ze 3 #[.string p] 9 ?_; intro g3 hg w1 hbox hb; have BK3 := zM hbox; replace HB := zM (below_step HB.out hb); clear hg hbox hb; have hd0 := zy BK3 0; have he0 := blk_frozen BK3.out 0)
    go_ret2
    exact ⟨by first | rfl | (simp; done), by first | exact HB.out | exact below_drew HB.out⟩
  have hlp : 0 < l.length := List.length_pos_iff.2 hn
  have n0 : ((l.length : Int) == 0) = false := beq_eq_false_iff_ne.mpr (by omega)
  have n1 : (l.length == 0) = false := beq_eq_false_iff_ne.mpr (by omega)
  have n2 : decide (l.length = 0) = false := decide_eq_false (by omega)
  have n3 : decide ((l.length : Int) = 0) = false := decide_eq_false (by omega)
  have n4 : decide (l = []) = false := decide_eq_false hn
  have n5 : l.isEmpty = false := by cases l with | nil => exact absurd rfl hn | cons => rfl
  obtain ⟨bk, rfl⟩ := hA hn
  by_cases h1 : p.size = 1
  case neg =>
    rw [show joinR l p = (⟨#[]⟩, false) from if_neg (fun h => h1 h.1)]
    have d1 : ((p.size : Int) != 1) = true := bne_iff_ne.mpr (by omega)
    have d2 : ((p.size : Int) == 1) = false := beq_eq_false_iff_ne.mpr (by omega)
    have d3 : (p.size == 1) = false := beq_eq_false_iff_ne.mpr h1
    have d4 : (p.size != 1) = true := bne_iff_ne.mpr h1
    have d5 : decide (p.size = 1) = false := decide_eq_false h1
    have d6 : decide ((p.size : Int) = 1) = false := decide_eq_false (by omega)
    clear hr hc hl hs hA
    go_enter Try.func14, Try.ntmps14
    go_wp2_with ((with_reducible refine gate_dst (N := 3) rfl ?_); refine ze 3 #[.string p] 9 ?_; intro g3 hg w1 hbox hb; have BK3 := zM hbox; replace HB := zM (below_step HB.out hb); clear hg hbox hb; have hd0 := zy BK3 0; have he0 := blk_frozen BK3.out 0)
    go_ret2
    exact ⟨by first | rfl | (simp; done), by first | exact HB.out | exact below_drew HB.out⟩
  obtain ⟨c, rfl⟩ := Lib.one_byte p h1
  have d1 : (((⟨#[c]⟩ : ByteArray).size : Int) != 1) = false := rfl
  have d2 : (⟨#[c]⟩ : ByteArray).size = 1 := rfl
  cases hcl : l.any (fun x => decide (c ∈ x.data.toList)) with
  | true =>
    rw [show joinR l ⟨#[c]⟩ = (⟨#[]⟩, false) from if_neg (fun h => by
      have h3 := h.2.2.1
      unfold clean at h3
      rw [show ((⟨#[c]⟩ : ByteArray).data.toList.headD 0) = c from rfl, hcl] at h3
      exact absurd h3 (by decide))]
    have HCL := zM hcl
    clear hr hc hl hs hA hcl
    go_enter Try.func14, Try.ntmps14
    go_wp2_with (first
      | ((with_reducible refine gate_dst (N := 3) rfl ?_); refine ze 3 #[.string ⟨#[c]⟩] 9 ?_; intro g3 hg w1 hbox hb; have BK3 := zM hbox; replace HB := zM (below_step HB.out hb); clear hg hbox hb; have hd0 := zy BK3 0; have he0 := blk_frozen BK3.out 0)
      | (go_at_call 19; refine (cont_strs 20 #[.pointer (some ⟨g3, 0, none⟩)] (enters_of Try.func20 (by kernel_rfl) rfl) _ _ cp l _ (Kd.C_below HR.out HB.out) (join1_at g3 c l _ (zy BK3 0))).mono ?_; rw [HCL.out]; rintro e w2 ⟨rfl, hb⟩; replace HB := zM (below_step HB.out hb); clear hb hd0 he0 BK3))
    go_ret2
    exact ⟨by first | rfl | (simp; done), by first | exact HB.out | exact below_drew HB.out⟩
  | false =>
    have HCL := zM hcl
    have hcln : clean ((⟨#[c]⟩ : ByteArray).data.toList.headD 0) l = true := by
      unfold clean
      rw [show ((⟨#[c]⟩ : ByteArray).data.toList.headD 0) = c from rfl, hcl]
      rfl
    have hjs := joinB_size ⟨#[c]⟩ rfl l hn
    have HBig := zM (fun (m : Nat) (h : 4000 < l.length - 1 + sizes (l.take m)) => (show joinR l ⟨#[c]⟩ = (⟨#[]⟩, false) from if_neg (fun e => by
      have := e.2.2.2
      have := sizes_take_le l m
      omega)))
    have HOk := zM (fun (h : l.length - 1 + sizes l ≤ 4000) => (show joinR l ⟨#[c]⟩ = (joinB ⟨#[c]⟩ l, true) from if_pos ⟨rfl, hn, hcln, by omega⟩))
    have HLP := zM hlp
    have HJ := zM (join_lib ⟨#[c]⟩ l)
    have HJl := zM (show l.length - 1 + sizes l ≤ 4000 → (Lib.join (l.map (·.data.toList)) (⟨#[c]⟩ : ByteArray).data.toList).length ≤ 140737488355328 from fun h => by
      have e := congrArg ByteArray.size (join_lib ⟨#[c]⟩ l)
      rw [show ((⟨(Lib.join (l.map (·.data.toList)) (⟨#[c]⟩ : ByteArray).data.toList).toArray⟩ : ByteArray).size) = _ from str_size _] at e
      omega)
    have s1 : (l.length : Int) - 1 = ((l.length - 1 : Nat) : Int) := by omega
    have s2 : wrap64 (((l.length - 1 : Nat)) : Int) = ((l.length - 1 : Nat) : Int) := wrap_nat (by omega) (by omega)
    have s3 : wrap64 ((l.length : Int) - 1) = ((l.length - 1 : Nat) : Int) := by rw [s1, s2]
    generalize hL1 : l.length - 1 = L1 at HBig HOk HJl s1 s2 s3
    have HL1 := zM hL1
    clear hr hc hl hs hA hcl hcln hjs hlp hn hL1
    go_enter Try.func14, Try.ntmps14
    go_wp2_with (first
      | ((with_reducible refine gate_dst (N := 3) rfl ?_); refine ze 3 #[.string ⟨#[c]⟩] 9 ?_; intro g3 hg w1 hbox hb; have BK3 := zM hbox; replace HB := zM (below_step HB.out hb); clear hg hbox hb; have hd0 := zy BK3 0; have he0 := blk_frozen BK3.out 0)
      | (go_at_call 19; refine (cont_strs 20 #[.pointer (some ⟨g3, 0, none⟩)] (enters_of Try.func20 (by kernel_rfl) rfl) _ _ cp l _ (Kd.C_below HR.out HB.out) (join1_at g3 c l _ (zy BK3 0))).mono ?_; rw [HCL.out]; rintro e w2 ⟨rfl, hb⟩; replace HB := zM (below_step HB.out hb); replace BK3 := zM (blk_below BK3.out hb); clear hb hd0 he0))
    go_loopg [6, 8, 27] (l.length + 1) (fun kq v6 v8 v27 w' => ∃ (m : Nat), v27 = .int .i64 (m : Int) ∧ v6 = .int .i64 ((L1 + sizes (l.take m) : Nat) : Int) ∧ Aside0 (m ≤ l.length) ∧ Aside0 (kq = l.length - m + 1) ∧ Aside0 (m = 0 ∨ L1 + sizes (l.take m) ≤ 4000) ∧ Aside0 (w'.heap[g3]? = some (.cells #[.string ⟨#[c]⟩] 9 (0, 0))) ∧ Aside0 (Below w.heap.size w w'))
    case atStart => exact ⟨0, by first | rfl | (simp; done), by first | rfl | (simp [sizes]; done) | (simp [sizes, s2]; done), ⟨Nat.zero_le _⟩, ⟨by omega⟩, ⟨.inl rfl⟩, BK3, HB⟩
    case round =>
      clear HB BK3
      obtain ⟨m, rfl, rfl, HM, HK1, HT, BK3, HB⟩ := hrel
      by_cases c1 : m < l.length
      · have p1 : (0 : Int) ≤ (m : Int) := by omega
        have q1 : (m : Int) < (l.length : Int) := by omega
        obtain ⟨ad, e1, hx0⟩ := Kd.at_string HR.out (m : Int) p1 q1
        cases e1
        replace hx0 := (HB.out.cell (World.block_lt_of_cell? w _ hx0)).trans hx0
        rw [Int.toNat_natCast, rdS_at l m c1, add_plain] at hx0
        have hle := sizes_take_le l (m + 1)
        rw [sizes_take l m c1] at hle
        have hlm := HL.out
        have hsm := HS.out
        have hl1 := HL1.out
        obtain ⟨u, hu⟩ : ∃ u, L1 + sizes (l.take m) + l[m].size = u := ⟨_, rfl⟩
        have HU := zM (show L1 + sizes (l.take (m + 1)) = u by rw [sizes_take l m c1]; omega)
        have hBg := HBig.out (m + 1)
        rw [HU.out] at hBg
        have HBg := zM hBg
        generalize hx : l[m] = x at hx0 hu hle
        generalize ht : L1 + sizes (l.take m) = t at hu
        obtain ⟨a1, a2, a3⟩ := add_sizes t x.size u hu (by omega)
        have c1b : decide ((m : Int) < (l.length : Int)) = true := decide_eq_true q1
        have c1c : decide (m < l.length) = true := decide_eq_true c1
        have hw1 : (m : Int) + 1 ≤ 9223372036854775807 := by omega
        have HC1 := zM c1
        replace p1 := eq_true p1
        replace q1 := eq_true q1
        by_cases c2 : 4000 < u
        · obtain ⟨b1, b2, b3⟩ := gt_yes u c2
          have HRr := zM (HBg.out c2)
          clear c1 c2 hle hlm hsm hl1 hu ht hBg hx
          go_wp2
          go_ret2
          exact ⟨by rw [HRr.out]; first | rfl | (simp; done), by first | exact HB.out | exact below_drew HB.out⟩
        · obtain ⟨b1, b2, b3⟩ := gt_no u c2
          have HU2 := zM (Nat.not_lt.1 c2)
          clear c1 c2 hle hlm hsm hl1 hu ht hBg hx
          go_wp2
          go_roundg (l.length - m)
          case measure => have := HK1.out; have := HC1.out; omega
          case rel => exact ⟨m + 1, by first | rfl | (simp; done) | go_num, by rw [HU.out]; first | rfl | (simp [a2]; done), ⟨by have := HC1.out; omega⟩, ⟨by have := HC1.out; omega⟩, ⟨.inr (by rw [HU.out]; exact HU2.out)⟩, BK3, HB⟩
      · have hm : m = l.length := by have := HM.out; omega
        have c1b : decide ((m : Int) < (l.length : Int)) = false := decide_eq_false (by omega)
        have c1c : decide (m < l.length) = false := decide_eq_false c1
        have hT2 : L1 + sizes l ≤ 4000 := by
          rcases HT.out with h | h
          · have := HLP.out; omega
          · rw [hm, List.take_of_length_le (Nat.le_refl _)] at h; exact h
        have hte : sizes (l.take m) = sizes l := by rw [hm, List.take_of_length_le (Nat.le_refl _)]
        rw [hte]
        have HT2 := zM hT2
        generalize ht : L1 + sizes l = t at hT2
        obtain ⟨b1, b2, b3⟩ := gt_no t (Nat.not_lt.2 hT2)
        have hd0 := zy BK3 0
        have he0 := blk_frozen BK3.out 0
        have hlt : bk < w.heap.size := by
          obtain ⟨ad, e1, hx0⟩ := Kd.at_string HR.out 0 (by omega) (by have := HLP.out; omega)
          cases e1
          exact World.block_lt_of_cell? w _ hx0
        have hcells : ∀ w' : World, Below w.heap.size w w' → ∀ (j : Nat) x, l[j]? = some x → w'.cell? ⟨bk, 0 + j, none⟩ = some (.string x) := fun w' hb j x hj => by
          obtain ⟨hj1, hj2⟩ := List.getElem?_eq_some_iff.1 hj
          obtain ⟨ad, e1, hx0⟩ := Kd.at_string HR.out (j : Int) (by omega) (by omega)
          cases e1
          rw [Int.toNat_natCast, rdS_at l j hj1, add_plain, hj2] at hx0
          rw [Nat.zero_add]
          exact pw_cell_below hb hx0
        have HCe := zM hcells
        have HLt := zM hlt
        have HRr := zM (HOk.out HT2.out)
        clear c1 hm hte hT2 ht hcells hlt
        go_wp2_with (go_at_call 22; refine (Try.strings_Join bk 0 cp l ⟨#[c]⟩ _ (HCe.out _ HB.out) (Nat.lt_of_lt_of_le HLt.out (below_size HB.out)) (by have := HL.out; omega) HC.out (HJl.out HT2.out)).mono ?_; rw [HJ.out]; rintro e w' ⟨rfl, hb⟩; replace HB := zM (below_step HB.out hb); clear hb)
        go_ret2
        exact ⟨by rw [HRr.out]; first | rfl | (simp; done), by first | exact HB.out | exact below_drew HB.out⟩
end Go.Proofs.Ytcjfmohmjhjpoaa.P
namespace Go.Proofs.Ytcjfmohmjhjpoaa.P
open Go.RowKit Go.ChangeShapes Go.Proofs.YtcjfmohmjhjpoaaW.PrintWords Go.Proofs.YtcjfmohmjhjpoaaW.PrintLast Go.Proofs.YtcjfmohmjhjpoaaW.PrintMore
set_option linter.unusedVariables false
theorem read_strs {H : Type} {enc : TypeId × Value → H} {W : World} {base : Nat} {held : Bool} {fuel : Nat} {v : Value} {y : DataW H × List MemPlace} (h : DataW.trod enc Try.prog W base (fun _ => true) held fuel 27 [v] = some y) :
    ∃ (A : Option Addr) (c : Nat) (l : List ByteArray), v = .slice A l.length c ∧ l.length ≤ c ∧ Kd.C Kd.string W A l.length l ∧ l.length ≤ 9223372036854775807 ∧ ∀ s ∈ l, s.size ≤ 9223372036854775807 := by
  have hml : maxLen = 9223372036854775807 := by decide
  rcases open_strings Try.underlying27 Try.underlying9 (by kernel_rfl) h with ⟨hcs, _⟩ | ⟨a, len, cap, zs, hcs, _, hl, hm, hz, _, hcell, hwf⟩
  · injection hcs with hv _
    exact ⟨none, 0, [], hv, Nat.le_refl _, ⟨rfl, Nat.zero_le _, fun h0 => absurd h0 (Nat.lt_irrefl _)⟩, Nat.zero_le _, fun s hs => by cases hs⟩
  · injection hcs with hv _
    simp only [if_true] at hz
    have hlen : (zs.take len).length = len := by rw [List.length_take]; omega
    refine ⟨some a, cap, zs.take len, by rw [hlen]; exact hv, by omega, ⟨rfl, by omega, fun _ => ⟨a, rfl, fun j p hj => ⟨[.string p], rfl, rfl, fun i u hi => ?_⟩⟩⟩, by omega, fun s hs => by rw [← hml]; exact hwf s (List.mem_of_mem_take hs)⟩
    cases i with
    | succ i => simp at hi
    | zero =>
      have hu : Value.string p = u := by simpa using hi
      subst hu
      have hj2 := (List.getElem?_eq_some_iff.1 hj).1
      rw [hlen] at hj2
      have hj3 : zs[j]? = some p := by rw [List.getElem?_take, if_pos hj2] at hj; exact hj
      have := hcell j (by omega)
      rw [List.getD_eq_getElem?_getD, hj3] at this
      simpa [show Kd.string.sz = 1 from rfl] using this
theorem toS_loop (l : List ByteArray) (hl : l.length ≤ 1048576) (d : Nat) : ∀ m : Nat, l.length - m = d → m ≤ l.length → Ev (fun k => laws_toStringS.l0 k l (l.take m ++ List.replicate (l.length - m) ⟨#[]⟩) (m : Int)) l := by
  induction d with
  | zero =>
    intro m h1 h2
    obtain rfl : m = l.length := by omega
    rw [Nat.sub_self, List.replicate_zero, List.append_nil, List.take_length]
    exact Ev.step (fun k => by rw [laws_toStringS.l0]) (Ev.neg (by omega) (Ev.now _))
  | succ d ih =>
    intro m h1 h2
    have hm : m < l.length := by omega
    have hlen : (l.take m ++ List.replicate (l.length - m) (⟨#[]⟩ : ByteArray)).length = l.length := by rw [List.length_append, List.length_take, List.length_replicate]; omega
    refine Ev.step (fun k => by rw [laws_toStringS.l0]) (Ev.pos (by omega) (Ev.pos (by omega) ?_))
    refine Ev.pos (by rw [hlen]; omega) ?_
    rw [wrap_up (m := m) (n := l.length) (by omega) (by omega), Int.toNat_natCast, rdS_at l m hm]
    have e : (l.take m ++ List.replicate (l.length - m) (⟨#[]⟩ : ByteArray)).set m l[m] = l.take (m + 1) ++ List.replicate (l.length - (m + 1)) ⟨#[]⟩ := by
      have hm2 : (l.take m).length = m := by rw [List.length_take]; omega
      rw [List.set_append_right _ _ (by rw [hm2]; exact Nat.le_refl _), hm2, Nat.sub_self, show l.length - m = (l.length - (m + 1)) + 1 by omega, List.replicate_succ, List.set_cons_zero, List.take_succ_eq_append_getElem hm, List.append_assoc, List.singleton_append]
    rw [e]
    exact ih (m + 1) (by omega) (by omega)
theorem toS_ev (l : List ByteArray) (hl : l.length ≤ 1048576) : Ev (fun k => laws_toStringS.f k l) l := by
  unfold laws_toStringS.f
  refine Ev.pos (by omega) (Ev.pos (by rw [Int.toNat_natCast]; omega) ?_)
  have := toS_loop l hl _ 0 rfl (Nat.zero_le _)
  rw [List.take_zero, List.nil_append, Nat.sub_zero] at this
  rw [Int.toNat_natCast]
  exact this
theorem eqT_loop (l : List ByteArray) (hl : l.length ≤ 1048577) (d : Nat) : ∀ m : Nat, l.length - m = d → m ≤ l.length → Ev (fun k => laws_eqStringS.l0 k l l (m : Int)) true := by
  induction d with
  | zero =>
    intro m h1 h2
    exact Ev.step (fun k => by rw [laws_eqStringS.l0]) (Ev.neg (by omega) (Ev.now _))
  | succ d ih =>
    intro m h1 h2
    refine Ev.step (fun k => by rw [laws_eqStringS.l0]) (Ev.pos (by omega) (Ev.pos (by omega) (Ev.pos (by omega) (Ev.pos rfl ?_))))
    rw [wrap_up (m := m) (n := l.length) (by omega) (by omega)]
    exact ih (m + 1) (by omega) (by omega)
theorem eqT_ev (l : List ByteArray) (hl : l.length ≤ 1048577) : Ev (fun k => laws_eqStringS.f k l l) true := by
  unfold laws_eqStringS.f
  exact Ev.pos rfl (eqT_loop l hl _ 0 rfl (Nat.zero_le _))
theorem szS_loop (l : List ByteArray) (hl : l.length ≤ 1048576) (hw : ∀ s ∈ l, s.size ≤ 9223372036854775807) (d : Nat) : ∀ (m t : Nat), l.length - m = d → m ≤ l.length → t ≤ 1048576 →
    ∃ r : Int, Ev (fun k => laws_szStringS.l0 k l (t : Int) (m : Int)) r ∧ (r < 0 ∨ (0 ≤ r ∧ sizes (l.drop m) ≤ t)) := by
  induction d with
  | zero =>
    intro m t h1 h2 h3
    refine ⟨(t : Int), Ev.step (fun k => by rw [laws_szStringS.l0]) (Ev.neg (by omega) (Ev.now _)), .inr ⟨by omega, ?_⟩⟩
    rw [List.drop_eq_nil_of_le (by omega)]
    exact Nat.zero_le _
  | succ d ih =>
    intro m t h1 h2 h3
    have hm : m < l.length := by omega
    have hx := hw l[m] (List.getElem_mem hm)
    have hwr : wrap64 ((t : Int) - (l[m].size : Int)) = (t : Int) - (l[m].size : Int) := wrap_nat (by omega) (by omega)
    by_cases c : (t : Int) - (l[m].size : Int) < 0
    · refine ⟨-1, Ev.step (fun k => by rw [laws_szStringS.l0]) (Ev.pos (by omega) (Ev.pos (by omega) ?_)), .inl (by decide)⟩
      rw [rdS_at l m hm, hwr]
      exact Ev.pos c (Ev.now _)
    · obtain ⟨r, h4, h5⟩ := ih (m + 1) (t - l[m].size) (by omega) (by omega) (by omega)
      refine ⟨r, Ev.step (fun k => by rw [laws_szStringS.l0]) (Ev.pos (by omega) (Ev.pos (by omega) ?_)), ?_⟩
      · rw [rdS_at l m hm, hwr, wrap_up (m := m) (n := l.length) (by omega) (by omega)]
        refine Ev.neg c ?_
        rw [show (t : Int) - (l[m].size : Int) = ((t - l[m].size : Nat) : Int) by omega]
        exact h4
      · rcases h5 with h5 | ⟨h5, h6⟩
        · exact .inl h5
        · refine .inr ⟨h5, ?_⟩
          rw [List.drop_eq_getElem_cons hm, sizes]
          omega
theorem szS_ev (l : List ByteArray) (hl : l.length ≤ 9223372036854775807) (hw : ∀ s ∈ l, s.size ≤ 9223372036854775807) : ∃ r : Int, Ev (fun k => laws_szStringS.f k l 1048576) r ∧ (r < 0 ∨ (0 ≤ r ∧ l.length ≤ 1048576 ∧ sizes l ≤ 1048576)) := by
  have hwr : wrap64 (1048576 - (l.length : Int)) = 1048576 - (l.length : Int) := wrap_nat (by omega) (by omega)
  unfold laws_szStringS.f
  rw [hwr]
  by_cases c : (1048576 : Int) - (l.length : Int) < 0
  · exact ⟨-1, Ev.pos c (Ev.now _), .inl (by decide)⟩
  · obtain ⟨r, h1, h2⟩ := szS_loop l (by omega) hw _ 0 (1048576 - l.length) rfl (Nat.zero_le _) (by omega)
    refine ⟨r, Ev.neg c ?_, ?_⟩
    · rw [show (1048576 : Int) - (l.length : Int) = ((1048576 - l.length : Nat) : Int) by omega]
      exact h1
    · rcases h2 with h2 | ⟨h2, h3⟩
      · exact .inl h2
      · rw [List.drop_zero] at h3
        exact .inr ⟨h2, by omega, by omega⟩
end Go.Proofs.Ytcjfmohmjhjpoaa.P
