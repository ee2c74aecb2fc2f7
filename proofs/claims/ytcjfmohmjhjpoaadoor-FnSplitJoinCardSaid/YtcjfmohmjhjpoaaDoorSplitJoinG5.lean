/- JoinStrings of both sides, in plain words, and impl's, walked. -/
import Derived.Test.YtcjfmohmjhjpoaaDoorSplitJoinG3
import Derived.Test.YtcjfmohmjhjpoaaDoorSplitJoinG4
import Derived.Lib.Join
import Derived.Lib.SplitLaws
import Derived.Below
import Derived.Handy
import Derived.Laws.BytesArg
import Derived.ProofKit
import Derived.OpenShut
namespace Go.Proofs.YtcjfmohmjhjpoaaDoor.P
open Go.RowKit Go.Proofs.YtcjfmohmjhjpoaaDoorW.PrintWords Go.Proofs.YtcjfmohmjhjpoaaDoorW.PrintLast Go.Proofs.YtcjfmohmjhjpoaaDoorW.PrintMore
/-- What stands already, with the further texts behind it, p ahead of each. -/
def jtail (p : ByteArray) (acc : ByteArray) : List ByteArray → ByteArray
  | [] => acc
  | x :: r => jtail p ((acc ++ p) ++ x) r
def joinB (p : ByteArray) : List ByteArray → ByteArray
  | [] => ⟨#[]⟩
  | x :: r => jtail p x r
def sizes : List ByteArray → Nat
  | [] => 0
  | x :: r => x.size + sizes r
theorem sizes_append (a b : List ByteArray) : sizes (a ++ b) = sizes a + sizes b := by
  induction a with
  | nil => simp [sizes]
  | cons x r ih => simp [sizes, ih]; omega
theorem jtail_size (p : ByteArray) (h : p.size = 1) (r : List ByteArray) : ∀ acc, (jtail p acc r).size = acc.size + sizes r + r.length := by
  induction r with
  | nil => intro acc; simp [jtail, sizes]
  | cons x r ih => intro acc; rw [jtail, ih, ByteArray.size_append, ByteArray.size_append, sizes, List.length_cons]; omega
theorem joinB_size (p : ByteArray) (h : p.size = 1) (l : List ByteArray) (hl : l ≠ []) : (joinB p l).size + 1 = sizes l + l.length := by
  cases l with
  | nil => exact absurd rfl hl
  | cons x r => rw [joinB, jtail_size p h, sizes, List.length_cons]; omega
theorem jtail_str (p : ByteArray) (r : List ByteArray) : ∀ acc, (jtail p acc r).data.toList = acc.data.toList ++ Lib.joinTail p.data.toList (r.map (·.data.toList)) := by
  induction r with
  | nil => intro acc; simp [jtail, Lib.joinTail]
  | cons x r ih =>
    intro acc
    rw [jtail, ih]
    simp [Lib.joinTail]
def clean (c : UInt8) (l : List ByteArray) : Bool := !(l.any fun x => decide (c ∈ x.data.toList))
theorem clean_cons (c : UInt8) (x : ByteArray) (l : List ByteArray) : clean c (x :: l) = (!decide (c ∈ x.data.toList) && clean c l) := by simp [clean]
/-- What JoinStrings answers. -/
def joinR (l : List ByteArray) (p : ByteArray) : ByteArray × Bool := if p.size = 1 ∧ l ≠ [] ∧ clean (p.data.toList.headD 0) l = true ∧ (joinB p l).size ≤ 4000 then (joinB p l, true) else (⟨#[]⟩, false)
def tailR (c : UInt8) (p acc : ByteArray) (r : List ByteArray) : ByteArray × Bool := if clean c r = true ∧ (jtail p acc r).size ≤ 4000 then (jtail p acc r, true) else (⟨#[]⟩, false)
theorem rdS_at (l : List ByteArray) (m : Nat) (h : m < l.length) : rdOf ByteArray.empty l (m : Int) = l[m] := by simp [rdOf, List.getD_eq_getElem?_getD, List.getElem?_eq_getElem h]
theorem sizes_at (l : List ByteArray) (m : Nat) (h : m < l.length) : l[m].size ≤ sizes l := by
  have e : sizes l = sizes (l.take m ++ (l[m] :: l.drop (m + 1))) := by rw [← List.drop_eq_getElem_cons h, List.take_append_drop]
  rw [e, sizes_append, sizes]; omega
theorem join_loop (l : List ByteArray) (c : UInt8) (hl : l.length ≤ 1048576) (hs : sizes l ≤ 1048576) (d : Nat) : ∀ (m : Nat) (acc : ByteArray), l.length - m = d → 0 < m → m ≤ l.length → acc.size ≤ 4000 →
    Ev (fun k => spec_JoinStrings.l0 k l ⟨#[c]⟩ acc (m : Int)) (tailR c ⟨#[c]⟩ acc (l.drop m)) := by
  have hp : (⟨#[c]⟩ : ByteArray).size = 1 := rfl
  have hb : bt ⟨#[c]⟩ 0 = (c.toNat : Int) := rfl
  induction d with
  | zero =>
    intro m acc h1 h2 h3 h4
    rw [List.drop_eq_nil_of_le (by omega), show tailR c ⟨#[c]⟩ acc [] = (acc, true) from if_pos ⟨rfl, h4⟩]
    exact Ev.step (fun k => by rw [spec_JoinStrings.l0]) (Ev.neg (by omega) (Ev.now _))
  | succ d ih =>
    intro m acc h1 h2 h3 h4
    have hm : m < l.length := by omega
    have hx := sizes_at l m hm
    rw [List.drop_eq_getElem_cons hm]
    refine Ev.step (fun k => by rw [spec_JoinStrings.l0]) (Ev.pos (by omega) ?_)
    rw [rdS_at l m hm]
    refine Ev.pos (by omega) (Ev.pos (by rw [hp]; decide) ?_)
    rw [hb]
    refine Ev.bind (stands_ev l[m] c (by omega)) ?_
    by_cases h : c ∈ l[m].data.toList
    · rw [show tailR c ⟨#[c]⟩ acc (l[m] :: l.drop (m + 1)) = (⟨#[]⟩, false) from if_neg (fun e => by rw [clean_cons, decide_eq_true h] at e; simp at e)]
      exact Ev.pos (decide_eq_true h) (Ev.now _)
    · refine Ev.neg (by simpa using h) (Ev.pos (by omega) (Ev.pos (by rw [hp]; omega) ?_))
      have hsz : ((acc ++ (⟨#[c]⟩ : ByteArray)) ++ l[m]).size = acc.size + 1 + l[m].size := by rw [ByteArray.size_append, ByteArray.size_append, hp]
      refine Ev.pos (by rw [ByteArray.size_append, hp]; omega) ?_
      by_cases hg : ((acc ++ (⟨#[c]⟩ : ByteArray)) ++ l[m]).size > 4000
      · rw [show tailR c ⟨#[c]⟩ acc (l[m] :: l.drop (m + 1)) = (⟨#[]⟩, false) from if_neg (fun e => by
          have := e.2
          rw [jtail, jtail_size _ hp] at this
          omega)]
        exact Ev.pos (by omega) (Ev.now _)
      · refine Ev.neg (by omega) ?_
        rw [wrap_up (m := m) (n := l.length) (by omega) (by omega)]
        have e : tailR c ⟨#[c]⟩ acc (l[m] :: l.drop (m + 1)) = tailR c ⟨#[c]⟩ ((acc ++ (⟨#[c]⟩ : ByteArray)) ++ l[m]) (l.drop (m + 1)) := by
          unfold tailR
          rw [clean_cons, decide_eq_false h, jtail]
          simp
        rw [e]
        exact ih (m + 1) _ (by omega) (by omega) (by omega) (by omega)
theorem spec_JoinStrings_ev (l : List ByteArray) (p : ByteArray) (hl : l.length ≤ 1048576) (hs : sizes l ≤ 1048576) : Ev (fun k => spec_JoinStrings.f k l p) (joinR l p) := by
  unfold spec_JoinStrings.f
  by_cases h1 : p.size = 1
  case neg =>
    rw [show joinR l p = (⟨#[]⟩, false) from if_neg (fun h => h1 h.1)]
    exact Ev.neg (by omega) (Ev.step (fun k => by rw [spec_JoinStrings.j0]) (Ev.pos rfl (Ev.now _)))
  refine Ev.pos (by omega) ?_
  obtain ⟨c, rfl⟩ := Lib.one_byte p h1
  have hp : (⟨#[c]⟩ : ByteArray).size = 1 := rfl
  have hb : bt ⟨#[c]⟩ 0 = (c.toNat : Int) := rfl
  cases l with
  | nil =>
    rw [show joinR [] ⟨#[c]⟩ = (⟨#[]⟩, false) from if_neg (fun h => h.2.1 rfl)]
    exact Ev.step (fun k => by rw [spec_JoinStrings.j0]) (Ev.pos (show ((([] : List ByteArray).length : Int) == 0) = true from rfl) (Ev.now _))
  | cons x r =>
    have hx : x.size ≤ 1048576 := by rw [sizes] at hs; omega
    refine Ev.step (fun k => by rw [spec_JoinStrings.j0]) (Ev.neg (by simp; omega) ?_)
    refine Ev.step (fun k => by rw [spec_JoinStrings.l0]) (Ev.pos (by rw [List.length_cons]; omega) ?_)
    rw [show rdOf ByteArray.empty (x :: r) 0 = x from rfl]
    refine Ev.pos (by decide) (Ev.pos (by rw [hp]; decide) ?_)
    rw [hb]
    refine Ev.bind (stands_ev x c hx) ?_
    have hj : joinR (x :: r) ⟨#[c]⟩ = if decide (c ∈ x.data.toList) = true then (⟨#[]⟩, false) else tailR c ⟨#[c]⟩ x r := by
      unfold joinR tailR
      rw [show ((⟨#[c]⟩ : ByteArray).data.toList.headD 0) = c from rfl, clean_cons, joinB]
      by_cases h : c ∈ x.data.toList
      · simp [h]
      · simp [h, hp]
    have he : (⟨#[]⟩ : ByteArray) ++ x = x := by
      apply ByteArray.ext
      simp
    rw [hj]
    by_cases h : c ∈ x.data.toList
    · rw [if_pos (decide_eq_true h)]
      exact Ev.pos (decide_eq_true h) (Ev.now _)
    · rw [if_neg (by simpa using h)]
      refine Ev.neg (by simpa using h) (Ev.neg (by decide) (Ev.pos ?_ ?_))
      · rw [show (⟨#[]⟩ : ByteArray).size = 0 from rfl]; omega
      · rw [he]
        by_cases hg : x.size > 4000
        · rw [show tailR c ⟨#[c]⟩ x r = (⟨#[]⟩, false) from if_neg (fun e => by
            have := e.2
            rw [jtail_size _ hp] at this
            omega)]
          exact Ev.pos (by omega) (Ev.now _)
        · refine Ev.neg (by omega) ?_
          have := join_loop (x :: r) c hl hs _ 1 x rfl (by decide) (by rw [List.length_cons]; omega) (by omega)
          rw [show wrap64 (0 + 1) = ((1 : Nat) : Int) from wrap_up (m := 0) (n := 1) (by decide) (by decide)]
          exact this
theorem join_lib (p : ByteArray) (l : List ByteArray) : (⟨(Lib.join (l.map (·.data.toList)) p.data.toList).toArray⟩ : ByteArray) = joinB p l := by
  cases l with
  | nil => rfl
  | cons x r =>
    have h := jtail_str p r x
    have e : Lib.join ((x :: r).map (·.data.toList)) p.data.toList = (jtail p x r).data.toList := by
      rw [h, List.map_cons]
      exact Lib.join_cons _ _ _
    rw [e]
    exact str_data _
end Go.Proofs.YtcjfmohmjhjpoaaDoor.P
namespace Go.Proofs.YtcjfmohmjhjpoaaDoor.P
open Go.RowKit Go.Proofs.YtcjfmohmjhjpoaaDoorW.PrintWords Go.Proofs.YtcjfmohmjhjpoaaDoorW.PrintLast Go.Proofs.YtcjfmohmjhjpoaaDoorW.PrintMore
set_option linter.unusedVariables false
set_option linter.unusedSimpArgs false
theorem containsJ_calls (s : ByteArray) (c : UInt8) (w : World) : Calls Tryd.prog 43 #[.string s, .string ⟨#[c]⟩] w fun e w' => e = .returned (.bool (decide (c ∈ s.data.toList))) ∧ w' = w :=
  (Tryd.strings_Contains_one s c w).mono fun e w' h => ⟨by rw [← idx_mem]; exact h.1, h.2⟩
set_option maxRecDepth 100000 in
theorem join1_at (gb : Nat) (c : UInt8) (l : List ByteArray) (w : World) (hc : w.cell? ⟨gb, 0, none⟩ = some (.string ⟨#[c]⟩)) : PredS 51 #[.pointer (some ⟨gb, 0, none⟩)] Value.string (fun x => decide (c ∈ x.data.toList)) l w := by
  intro W x hx hb
  have hcell := pw_cell_below hb hc
  clear hc hb hx
  have HB := zM (Below.refl W.heap.size W)
  show Calls Tryd.prog 51 #[.string x, .pointer (some ⟨gb, 0, none⟩)] W _
  go_enter Tryd.func51, Tryd.ntmps51
  go_wp2_with (go_at_call 43; refine (containsJ_calls x c _).mono ?_; rintro e w' ⟨rfl, rfl⟩)
  go_ret
  exact ⟨by first | rfl | (simp; done), HB.out⟩
theorem gt_yes (u : Nat) (h : 4000 < u) : decide ((u : Int) > 4000) = true ∧ decide ((4000 : Int) < (u : Int)) = true ∧ decide (4000 < u) = true := ⟨decide_eq_true (by omega), decide_eq_true (by omega), decide_eq_true h⟩
theorem gt_no (u : Nat) (h : ¬ 4000 < u) : decide ((u : Int) > 4000) = false ∧ decide ((4000 : Int) < (u : Int)) = false ∧ decide (4000 < u) = false := ⟨decide_eq_false (by omega), decide_eq_false (by omega), decide_eq_false h⟩
theorem add_sizes (t x u : Nat) (hu : t + x = u) (h : u ≤ 9000000) : (t : Int) + (x : Int) = (u : Int) ∧ wrap64 (u : Int) = (u : Int) ∧ wrap64 ((t : Int) + (x : Int)) = (u : Int) := by
  have a1 : (t : Int) + (x : Int) = (u : Int) := by omega
  have a2 : wrap64 (u : Int) = (u : Int) := wrap_nat (by omega) (by omega)
  exact ⟨a1, a2, by rw [a1, a2]⟩
theorem sizes_take (l : List ByteArray) (m : Nat) (h : m < l.length) : sizes (l.take (m + 1)) = sizes (l.take m) + l[m].size := by
  rw [List.take_succ_eq_append_getElem h, sizes_append]; simp [sizes]
theorem sizes_take_le (l : List ByteArray) (m : Nat) : sizes (l.take m) ≤ sizes l := by
  have e : sizes l = sizes (l.take m ++ l.drop m) := by rw [List.take_append_drop]
  rw [e, sizes_append]; omega
set_option maxRecDepth 100000 in
set_option maxHeartbeats 4000000 in
theorem impl_JoinStrings_calls (A : Option Addr) (cp : Nat) (l : List ByteArray) (p : ByteArray) (w : World) (hA : l ≠ [] → ∃ bk, A = some ⟨bk, 0, none⟩) (hr : Kd.C Kd.string w A l.length l) (hc : l.length ≤ cp) (hl : l.length ≤ 1048576) (hs : sizes l ≤ 1048576) :
    Calls Tryd.prog 24 #[.slice A l.length cp, .string p] w fun e w' => e = .returned (.tuple #[.string (joinR l p).1, .bool (joinR l p).2]) ∧ Below w.heap.size w w' := by
  have HB := zM (Below.refl w.heap.size w)
  have HR := zM hr
  have HC := zM hc
  have HL := zM hl
  have HS := zM hs
  by_cases hn : l = []
  · subst hn
    rw [show joinR [] p = (⟨#[]⟩, false) from if_neg (fun h => h.2.1 rfl)]
    clear hr hc hl hs hA
    have n0 : ((([] : List ByteArray).length : Int) == 0) = true := rfl
    have n1 : ([] : List ByteArray).length = 0 := rfl
    go_enter Tryd.func24, Tryd.ntmps24
    go_wp2_with ((with_reducible refine gate_dst (N := 3) rfl ?_); refine ze 3 #[.string p] 9 ?_; intro g3 hg w1 hbox hb; have BK3 := zM hbox; replace HB := zM (below_step HB.out hb); clear hg hbox hb; have hd0 := zy BK3 0; have he0 := blk_frozen BK3.out 0)
    go_ret2
    exact ⟨by first | rfl | (simp; done), by first | exact HB.out | exact below_drew HB.out⟩
  have hlp : 0 < l.length := List.length_pos_iff.2 hn
  have n0 : ((l.length : Int) == 0) = false := beq_eq_false_iff_ne.mpr (by omega)
  have n1 : (l.length == 0) = false := beq_eq_false_iff_ne.mpr (by omega)
  have n2 : decide (l.length = 0) = false := decide_eq_false (by omega)
  have n3 : decide ((l.length : Int) = 0) = false := decide_eq_false (by omega)
  have n4 : decide (l = []) = false := decide_eq_false hn
  have n5 : l.isEmpty = false := by cases l with | nil => exact absurd rfl hn | cons => rfl
  obtain ⟨bk, rfl⟩ := hA hn
  by_cases h1 : p.size = 1
  case neg =>
    rw [show joinR l p = (⟨#[]⟩, false) from if_neg (fun h => h1 h.1)]
    have d1 : ((p.size : Int) != 1) = true := bne_iff_ne.mpr (by omega)
    have d2 : ((p.size : Int) == 1) = false := beq_eq_false_iff_ne.mpr (by omega)
    have d3 : (p.size == 1) = false := beq_eq_false_iff_ne.mpr h1
    have d4 : (p.size != 1) = true := bne_iff_ne.mpr h1
    have d5 : decide (p.size = 1) = false := decide_eq_false h1
    have d6 : decide ((p.size : Int) = 1) = false := decide_eq_false (by omega)
    clear hr hc hl hs hA
    go_enter Tryd.func24, Tryd.ntmps24
    go_wp2_with ((with_reducible refine gate_dst (N := 3) rfl ?_); refine ze 3 #[.string p] 9 ?_; intro g3 hg w1 hbox hb; have BK3 := zM hbox; replace HB := zM (below_step HB.out hb); clear hg hbox hb; have hd0 := zy BK3 0; have he0 := blk_frozen BK3.out 0)
    go_ret2
    exact ⟨by first | rfl | (simp; done), by first | exact HB.out | exact below_drew HB.out⟩
  obtain ⟨c, rfl⟩ := Lib.one_byte p h1
  have d1 : (((⟨#[c]⟩ : ByteArray).size : Int) != 1) = false := rfl
  have d2 : (⟨#[c]⟩ : ByteArray).size = 1 := rfl
  cases hcl : l.any (fun x => decide (c ∈ x.data.toList)) with
  | true =>
    rw [show joinR l ⟨#[c]⟩ = (⟨#[]⟩, false) from if_neg (fun h => by
      have h3 := h.2.2.1
      unfold clean at h3
      rw [show ((⟨#[c]⟩ : ByteArray).data.toList.headD 0) = c from rfl, hcl] at h3
      exact absurd h3 (by decide))]
    have HCL := zM hcl
    clear hr hc hl hs hA hcl
    go_enter Tryd.func24, Tryd.ntmps24
    go_wp2_with (first
      | ((with_reducible refine gate_dst (N := 3) rfl ?_); refine ze 3 #[.string ⟨#[c]⟩] 9 ?_; intro g3 hg w1 hbox hb; have BK3 := zM hbox; replace HB := zM (below_step HB.out hb); clear hg hbox hb; have hd0 := zy BK3 0; have he0 := blk_frozen BK3.out 0)
      | (go_at_call 50; refine (cont_strs 51 #[.pointer (some ⟨g3, 0, none⟩)] (enters_of Tryd.func51 (by kernel_rfl) rfl) _ _ cp l _ (Kd.C_below HR.out HB.out) (join1_at g3 c l _ (zy BK3 0))).mono ?_; rw [HCL.out]; rintro e w2 ⟨rfl, hb⟩; replace HB := zM (below_step HB.out hb); clear hb hd0 he0 BK3))
    go_ret2
    exact ⟨by first | rfl | (simp; done), by first | exact HB.out | exact below_drew HB.out⟩
  | false =>
    have HCL := zM hcl
    have hcln : clean ((⟨#[c]⟩ : ByteArray).data.toList.headD 0) l = true := by
      unfold clean
      rw [show ((⟨#[c]⟩ : ByteArray).data.toList.headD 0) = c from rfl, hcl]
      rfl
    have hjs := joinB_size ⟨#[c]⟩ rfl l hn
    have HBig := zM (fun (m : Nat) (h : 4000 < l.length - 1 + sizes (l.take m)) => (show joinR l ⟨#[c]⟩ = (⟨#[]⟩, false) from if_neg (fun e => by
      have := e.2.2.2
      have := sizes_take_le l m
      omega)))
    have HOk := zM (fun (h : l.length - 1 + sizes l ≤ 4000) => (show joinR l ⟨#[c]⟩ = (joinB ⟨#[c]⟩ l, true) from if_pos ⟨rfl, hn, hcln, by omega⟩))
    have HLP := zM hlp
    have HJ := zM (join_lib ⟨#[c]⟩ l)
    have HJl := zM (show l.length - 1 + sizes l ≤ 4000 → (Lib.join (l.map (·.data.toList)) (⟨#[c]⟩ : ByteArray).data.toList).length ≤ 140737488355328 from fun h => by
      have e := congrArg ByteArray.size (join_lib ⟨#[c]⟩ l)
      rw [show ((⟨(Lib.join (l.map (·.data.toList)) (⟨#[c]⟩ : ByteArray).data.toList).toArray⟩ : ByteArray).size) = _ from str_size _] at e
      omega)
    have s1 : (l.length : Int) - 1 = ((l.length - 1 : Nat) : Int) := by omega
    have s2 : wrap64 (((l.length - 1 : Nat)) : Int) = ((l.length - 1 : Nat) : Int) := wrap_nat (by omega) (by omega)
    have s3 : wrap64 ((l.length : Int) - 1) = ((l.length - 1 : Nat) : Int) := by rw [s1, s2]
    generalize hL1 : l.length - 1 = L1 at HBig HOk HJl s1 s2 s3
    have HL1 := zM hL1
    clear hr hc hl hs hA hcl hcln hjs hlp hn hL1
    go_enter Tryd.func24, Tryd.ntmps24
    go_wp2_with (first
      | ((with_reducible refine gate_dst (N := 3) rfl ?_); refine ze 3 #[.string ⟨#[c]⟩] 9 ?_; intro g3 hg w1 hbox hb; have BK3 := zM hbox; replace HB := zM (below_step HB.out hb); clear hg hbox hb; have hd0 := zy BK3 0; have he0 := blk_frozen BK3.out 0)
      | (go_at_call 50; refine (cont_strs 51 #[.pointer (some ⟨g3, 0, none⟩)] (enters_of Tryd.func51 (by kernel_rfl) rfl) _ _ cp l _ (Kd.C_below HR.out HB.out) (join1_at g3 c l _ (zy BK3 0))).mono ?_; rw [HCL.out]; rintro e w2 ⟨rfl, hb⟩; replace HB := zM (below_step HB.out hb); replace BK3 := zM (blk_below BK3.out hb); clear hb hd0 he0))
    go_loopg [6, 8, 27] (l.length + 1) (fun kq v6 v8 v27 w' => ∃ (m : Nat), v27 = .int .i64 (m : Int) ∧ v6 = .int .i64 ((L1 + sizes (l.take m) : Nat) : Int) ∧ Aside0 (m ≤ l.length) ∧ Aside0 (kq = l.length - m + 1) ∧ Aside0 (m = 0 ∨ L1 + sizes (l.take m) ≤ 4000) ∧ Aside0 (w'.heap[g3]? = some (.cells #[.string ⟨#[c]⟩] 9 (0, 0))) ∧ Aside0 (Below w.heap.size w w'))
    case atStart => exact ⟨0, by first | rfl | (simp; done), by first | rfl | (simp [sizes]; done) | (simp [sizes, s2]; done), ⟨Nat.zero_le _⟩, ⟨by omega⟩, ⟨.inl rfl⟩, BK3, HB⟩
    case round =>
      clear HB BK3
      obtain ⟨m, rfl, rfl, HM, HK1, HT, BK3, HB⟩ := hrel
      by_cases c1 : m < l.length
      · have p1 : (0 : Int) ≤ (m : Int) := by omega
        have q1 : (m : Int) < (l.length : Int) := by omega
        obtain ⟨ad, e1, hx0⟩ := Kd.at_string HR.out (m : Int) p1 q1
        cases e1
        replace hx0 := (HB.out.cell (World.block_lt_of_cell? w _ hx0)).trans hx0
        rw [Int.toNat_natCast, rdS_at l m c1, add_plain] at hx0
        have hle := sizes_take_le l (m + 1)
        rw [sizes_take l m c1] at hle
        have hlm := HL.out
        have hsm := HS.out
        have hl1 := HL1.out
        obtain ⟨u, hu⟩ : ∃ u, L1 + sizes (l.take m) + l[m].size = u := ⟨_, rfl⟩
        have HU := zM (show L1 + sizes (l.take (m + 1)) = u by rw [sizes_take l m c1]; omega)
        have hBg := HBig.out (m + 1)
        rw [HU.out] at hBg
        have HBg := zM hBg
        generalize hx : l[m] = x at hx0 hu hle
        generalize ht : L1 + sizes (l.take m) = t at hu
        obtain ⟨a1, a2, a3⟩ := add_sizes t x.size u hu (by omega)
        have c1b : decide ((m : Int) < (l.length : Int)) = true := decide_eq_true q1
        have c1c : decide (m < l.length) = true := decide_eq_true c1
        have hw1 : (m : Int) + 1 ≤ 9223372036854775807 := by omega
        have HC1 := zM c1
        replace p1 := eq_true p1
        replace q1 := eq_true q1
        by_cases c2 : 4000 < u
        · obtain ⟨b1, b2, b3⟩ := gt_yes u c2
          have HRr := zM (HBg.out c2)
          clear c1 c2 hle hlm hsm hl1 hu ht hBg hx
          go_wp2
          go_ret2
          exact ⟨by rw [HRr.out]; first | rfl | (simp; done), by first | exact HB.out | exact below_drew HB.out⟩
        · obtain ⟨b1, b2, b3⟩ := gt_no u c2
          have HU2 := zM (Nat.not_lt.1 c2)
          clear c1 c2 hle hlm hsm hl1 hu ht hBg hx
          go_wp2
          go_roundg (l.length - m)
          case measure => have := HK1.out; have := HC1.out; omega
          case rel => exact ⟨m + 1, by first | rfl | (simp; done) | go_num, by rw [HU.out]; first | rfl | (simp [a2]; done), ⟨by have := HC1.out; omega⟩, ⟨by have := HC1.out; omega⟩, ⟨.inr (by rw [HU.out]; exact HU2.out)⟩, BK3, HB⟩
      · have hm : m = l.length := by have := HM.out; omega
        have c1b : decide ((m : Int) < (l.length : Int)) = false := decide_eq_false (by omega)
        have c1c : decide (m < l.length) = false := decide_eq_false c1
        have hT2 : L1 + sizes l ≤ 4000 := by
          rcases HT.out with h | h
          · have := HLP.out; omega
          · rw [hm, List.take_of_length_le (Nat.le_refl _)] at h; exact h
        have hte : sizes (l.take m) = sizes l := by rw [hm, List.take_of_length_le (Nat.le_refl _)]
        rw [hte]
        have HT2 := zM hT2
        generalize ht : L1 + sizes l = t at hT2
        obtain ⟨b1, b2, b3⟩ := gt_no t (Nat.not_lt.2 hT2)
        have hd0 := zy BK3 0
        have he0 := blk_frozen BK3.out 0
        have hlt : bk < w.heap.size := by
          obtain ⟨ad, e1, hx0⟩ := Kd.at_string HR.out 0 (by omega) (by have := HLP.out; omega)
          cases e1
          exact World.block_lt_of_cell? w _ hx0
        have hcells : ∀ w' : World, Below w.heap.size w w' → ∀ (j : Nat) x, l[j]? = some x → w'.cell? ⟨bk, 0 + j, none⟩ = some (.string x) := fun w' hb j x hj => by
          obtain ⟨hj1, hj2⟩ := List.getElem?_eq_some_iff.1 hj
          obtain ⟨ad, e1, hx0⟩ := Kd.at_string HR.out (j : Int) (by omega) (by omega)
          cases e1
          rw [Int.toNat_natCast, rdS_at l j hj1, add_plain, hj2] at hx0
          rw [Nat.zero_add]
          exact pw_cell_below hb hx0
        have HCe := zM hcells
        have HLt := zM hlt
        have HRr := zM (HOk.out HT2.out)
        clear c1 hm hte hT2 ht hcells hlt
        go_wp2_with (go_at_call 52; refine (Tryd.strings_Join bk 0 cp l ⟨#[c]⟩ _ (HCe.out _ HB.out) (Nat.lt_of_lt_of_le HLt.out (below_size HB.out)) (by have := HL.out; omega) HC.out (HJl.out HT2.out)).mono ?_; rw [HJ.out]; rintro e w' ⟨rfl, hb⟩; replace HB := zM (below_step HB.out hb); clear hb)
        go_ret2
        exact ⟨by rw [HRr.out]; first | rfl | (simp; done), by first | exact HB.out | exact below_drew HB.out⟩
end Go.Proofs.YtcjfmohmjhjpoaaDoor.P
namespace Go.Proofs.YtcjfmohmjhjpoaaDoor.P
open Go.RowKit Go.Proofs.YtcjfmohmjhjpoaaDoorW.PrintWords Go.Proofs.YtcjfmohmjhjpoaaDoorW.PrintLast Go.Proofs.YtcjfmohmjhjpoaaDoorW.PrintMore
set_option linter.unusedVariables false
set_option linter.unusedSimpArgs false
/-- A code: bytes. -/
def isCode (l : List Int) : Prop := ∀ x ∈ l, 0 ≤ x ∧ x ≤ 255
theorem bits_byte (x : Int) : 0 ≤ Go.bits .and .u64 x 255 ∧ Go.bits .and .u64 x 255 ≤ 255 := by
  unfold Go.bits
  have h : ((BitVec.ofInt IntKind.u64.bits x) &&& (BitVec.ofInt IntKind.u64.bits 255)).toNat ≤ 255 := by
    rw [BitVec.toNat_and]
    refine Nat.le_trans Nat.and_le_right ?_
    decide
  simp only [IntKind.wrap]
  generalize ((BitVec.ofInt IntKind.u64.bits x) &&& (BitVec.ofInt IntKind.u64.bits 255)).toNat = n at h ⊢
  have e : (n : Int) % 18446744073709551616 = n := by omega
  first | (rw [e]; omega) | (simp [IntKind.signed, IntKind.bits]; omega) | (split <;> omega)
theorem rd_code {l : List Int} (h : isCode l) (j : Int) (h0 : 0 ≤ j) (h1 : j < (l.length : Int)) : 0 ≤ rd l j ∧ rd l j ≤ 255 := by
  have hj : j.toNat < l.length := by omega
  have e : rd l j = l[j.toNat] := by simp [rd, List.getD_eq_getElem?_getD, List.getElem?_eq_getElem hj]
  rw [e]; exact h _ (List.getElem_mem hj)
theorem next_some {l : List Int} {p s : Int} (hl : isCode l) (h0 : 0 ≤ p) (h1 : p ≤ 4611686018427387904) : ∃ b s1, spec_l1Cur_next.f l p s = some (b, p + 1, s1) ∧ 0 ≤ b ∧ b ≤ 255 := by
  have e1 : wrap64 (p + 1) = p + 1 := wrap_nat (by omega) (by omega)
  unfold spec_l1Cur_next.f
  rw [e1]
  by_cases c : p < (l.length : Int)
  · rw [if_pos c, if_pos h0, if_pos (show p + 1 ≤ (l.length : Int) by omega)]
    have hb := rd_code hl p h0 c
    have e2 : wrap64 (rd l p) = rd l p := wrap_nat (by omega) (by omega)
    rw [e2]
    exact ⟨_, _, rfl, hb.1, hb.2⟩
  · rw [if_neg c, if_neg (show ¬ p + 1 ≤ (l.length : Int) by omega)]
    have hb := bits_byte (IntKind.u64.wrap ((IntKind.u64.wrap ((IntKind.u64.wrap (s * 6364136223846793005)) + 0)) + 462197) / 1099511627776)
    refine ⟨_, _, rfl, ?_⟩
    rw [wrap_nat (by omega) (by omega)]
    exact hb
theorem tmod_in {x n : Int} (h : 0 ≤ x) (hn : 1 < n) : 0 ≤ Int.tmod x n ∧ Int.tmod x n < n := ⟨Int.tmod_nonneg _ h, Int.tmod_lt_of_pos _ (by omega)⟩
theorem pick_some {l : List Int} {p s n : Int} (hl : isCode l) (h0 : 0 ≤ p) (h1 : p ≤ 4611686018427387900) : ∃ b p1 s1, spec_l1Cur_pick.f l p s n = some (b, p1, s1) ∧ 0 ≤ b ∧ (b < n ∨ b = 0) ∧ p ≤ p1 ∧ p1 ≤ p + 2 := by
  unfold spec_l1Cur_pick.f
  by_cases c : n ≤ 1
  · rw [if_pos c]; exact ⟨_, _, _, rfl, Int.le_refl _, .inr rfl, Int.le_refl _, by omega⟩
  rw [if_neg c]
  obtain ⟨b, s1, e, b0, b1⟩ := next_some (s := s) hl h0 (by omega : p ≤ 4611686018427387904)
  rw [e]
  dsimp only [Option.bind_some]
  by_cases c2 : n > 200
  · rw [if_pos c2]
    obtain ⟨b2, s2, e2, c0, c1⟩ := next_some (s := s1) hl (by omega : 0 ≤ p + 1) (by omega)
    rw [e2]
    dsimp only [Option.bind_some]
    rw [if_neg (show ¬ n = 0 by omega)]
    have w1 : wrap64 (b * 256) = b * 256 := wrap_nat (by omega) (by omega)
    have w2 : wrap64 (b * 256 + b2) = b * 256 + b2 := wrap_nat (by omega) (by omega)
    rw [w1, w2]
    have ht := tmod_in (x := b * 256 + b2) (n := n) (by omega) (by omega)
    exact ⟨_, _, _, rfl, ht.1, .inl ht.2, by omega, by omega⟩
  · rw [if_neg c2, if_neg (show ¬ n = 0 by omega)]
    have ht := tmod_in (x := b) (n := n) b0 (by omega)
    exact ⟨_, _, _, rfl, ht.1, .inl ht.2, by omega, by omega⟩
theorem of_some {l : List Int} {p s : Int} {ts : List ByteArray} (hl : isCode l) (h0 : 0 ≤ p) (h1 : p ≤ 4611686018427387900) (ht : 0 < ts.length) : ∃ t p1 s1, spec_l1Cur_of.f l p s ts = some (t, p1, s1) ∧ t ∈ ts ∧ p ≤ p1 ∧ p1 ≤ p + 2 := by
  unfold spec_l1Cur_of.f
  obtain ⟨b, p1, s1, e, b0, b1, q0, q1⟩ := pick_some (s := s) (n := (ts.length : Int)) hl h0 h1
  rw [e]
  dsimp only [Option.bind_some]
  have hb : b < (ts.length : Int) := by omega
  rw [if_pos b0, if_pos hb]
  have hj : b.toNat < ts.length := by omega
  refine ⟨_, _, _, rfl, ?_, q0, q1⟩
  have er : rdOf ByteArray.empty ts b = ts[b.toNat] := by simp [rdOf, List.getD_eq_getElem?_getD, List.getElem?_eq_getElem hj]
  rw [er]; exact List.getElem_mem hj
theorem any1_some {l : List Int} {p s : Int} (hl : isCode l) (h0 : 0 ≤ p) (h1 : p ≤ 4611686018427387900) : ∃ t p1 s1, spec_l1Cur_any1.f l p s = some (t, p1, s1) ∧ t.size ≤ 10 ∧ p ≤ p1 ∧ p1 ≤ p + 2 := by
  unfold spec_l1Cur_any1.f
  obtain ⟨t, p1, s1, e, ht, q0, q1⟩ := of_some (s := s) (ts := ([(⟨#[]⟩ : ByteArray), (⟨#[97]⟩ : ByteArray), (⟨#[97, 44, 98]⟩ : ByteArray), (⟨#[115, 111, 109, 101, 32, 119, 111, 114, 100, 115]⟩ : ByteArray), (⟨#[120, 35, 121]⟩ : ByteArray), (⟨#[45, 49, 50]⟩ : ByteArray), (⟨#[0, 255]⟩ : ByteArray), (⟨#[44, 44]⟩ : ByteArray), (⟨#[48]⟩ : ByteArray)] : List ByteArray)) hl h0 h1 (by decide)
  rw [e]
  refine ⟨t, p1, s1, rfl, ?_, q0, q1⟩
  simp only [List.mem_cons, List.not_mem_nil, or_false] at ht
  rcases ht with rfl | rfl | rfl | rfl | rfl | rfl | rfl | rfl | rfl <;> decide
theorem one_some {l : List Int} {p s n : Int} (hl : isCode l) (h0 : 0 ≤ p) (h1 : p ≤ 4611686018427387900) : ∃ b p1 s1, spec_l1Cur_one.f l p s n = some (b, p1, s1) ∧ p ≤ p1 ∧ p1 ≤ p + 2 := by
  unfold spec_l1Cur_one.f
  obtain ⟨b, p1, s1, e, b0, b1, q0, q1⟩ := pick_some (s := s) (n := n) hl h0 h1
  rw [e]
  exact ⟨_, p1, s1, rfl, q0, q1⟩
end Go.Proofs.YtcjfmohmjhjpoaaDoor.P
namespace Go.Proofs.YtcjfmohmjhjpoaaDoor.P
open Go.RowKit Go.Proofs.YtcjfmohmjhjpoaaDoorW.PrintWords Go.Proofs.YtcjfmohmjhjpoaaDoorW.PrintLast Go.Proofs.YtcjfmohmjhjpoaaDoorW.PrintMore
set_option linter.unusedVariables false
set_option linter.unusedSimpArgs false
set_option maxRecDepth 100000 in
set_option maxHeartbeats 4000000 in
theorem spec_DrawLessString_calls (l : List Int) (hl : isCode l) : ∃ s t : ByteArray, s.size ≤ 10 ∧ t.size ≤ 10 ∧ ∀ (A : Option Addr) (cp : Nat) (w : World), Kd.C (Kd.int .u8) w A l.length l → l.length ≤ cp →
    Calls Tryd.prog 26 #[.slice A l.length cp] w fun e w' => e = .returned (.tuple #[.string s, .string t]) ∧ Below w.heap.size w w' := by
  obtain ⟨t1, p1, s1, e1, z1, b1, c1⟩ := any1_some (s := 0) hl (Int.le_refl 0) (by omega)
  obtain ⟨t2, p2, s2, e2, z2, b2, c2⟩ := any1_some (s := s1) hl b1 (by omega)
  refine ⟨t1, t2, z1, z2, fun A cp w hr hc => ?_⟩
  have HB := zM (Below.refl w.heap.size w)
  have HR := zM hr
  have E1 := zM e1
  have E2 := zM e2
  have Z := zM (And.intro z1 z2)
  clear e1 e2 z1 z2 b1 c1 b2 c2 hl hr hc
  go_enter Tryd.func26, Tryd.ntmps26
  go_wp2_with (first
    | ((with_reducible refine gate_dst (N := 8) rfl ?_); refine ze 8 #[.slice A l.length cp, .int .i64 0, .int .u64 0] 57 ?_; intro g hg w1 hbox hb; have HI := zM (show IsS57 w w1 g l 0 0 from ⟨A, cp, hbox, by rw [hg]; exact below_size HB.out, HR.out⟩); replace HB := zM (below_step HB.out hb); clear hg hbox hb)
    | ((have h_ : IsS57 w _ g l 0 0 := HI.out); clear h_; go_at_call 46; refine (spec_l1Cur_any1.calls g l 0 0 t1 p1 s1 w _ (by repeat (first | (with_reducible first | exact HI.out | apply IsS57.drewN | apply IsS57.drew) | exact HI.out); done) (by repeat (first | (with_reducible first | exact HB.out | apply pw_below_drewN | apply below_drew1) | exact HB.out); done) E1.out).mono ?_; rintro e w6 ⟨rfl, hi, hb, hk⟩; replace HB := zM hb; replace HI := zM hi; clear hb hi hk)
    | ((have h_ : IsS57 w _ g l p1 s1 := HI.out); clear h_; go_at_call 46; refine (spec_l1Cur_any1.calls g l p1 s1 t2 p2 s2 w _ (by repeat (first | (with_reducible first | exact HI.out | apply IsS57.drewN | apply IsS57.drew) | exact HI.out); done) (by repeat (first | (with_reducible first | exact HB.out | apply pw_below_drewN | apply below_drew1) | exact HB.out); done) E2.out).mono ?_; rintro e w6 ⟨rfl, hi, hb, hk⟩; replace HB := zM hb; replace HI := zM hi; clear hb hi hk))
  go_ret2
  exact ⟨rfl, HB.out⟩
set_option maxRecDepth 100000 in
set_option maxHeartbeats 4000000 in
theorem spec_DrawSplitString_calls (l : List Int) (hl : isCode l) : ∃ s t : ByteArray, s.size ≤ 10 ∧ t.size ≤ 2 ∧ ∀ (A : Option Addr) (cp : Nat) (w : World), Kd.C (Kd.int .u8) w A l.length l → l.length ≤ cp →
    Calls Tryd.prog 22 #[.slice A l.length cp] w fun e w' => e = .returned (.tuple #[.string s, .string t]) ∧ Below w.heap.size w w' := by
  obtain ⟨t1, p1, s1, e1, z1, b1, c1⟩ := any1_some (s := 0) hl (Int.le_refl 0) (by omega)
  obtain ⟨ts, hts⟩ : ∃ ts : List ByteArray, ts = ([(⟨#[44]⟩ : ByteArray), (⟨#[44]⟩ : ByteArray), (⟨#[32]⟩ : ByteArray), (⟨#[]⟩ : ByteArray), (⟨#[44, 44]⟩ : ByteArray)] : List ByteArray) := ⟨_, rfl⟩
  obtain ⟨t2, p2, s2, e2, z2, b2, c2⟩ := of_some (s := s1) (ts := ts) hl b1 (by omega) (by subst hts; decide)
  have z3 : t2.size ≤ 2 := by
    subst hts
    simp only [List.mem_cons, List.not_mem_nil, or_false] at z2
    rcases z2 with rfl | rfl | rfl | rfl | rfl <;> decide
  refine ⟨t1, t2, z1, z3, fun A cp w hr hc => ?_⟩
  have HB := zM (Below.refl w.heap.size w)
  have HR := zM hr
  have E1 := zM e1
  have E2 := zM e2
  have Z := zM (And.intro z1 z3)
  have HT := zM hts
  clear e1 e2 z1 z2 z3 b1 c1 b2 c2 hl hr hc hts
  go_enter Tryd.func22, Tryd.ntmps22
  go_wp2_with (first
    | ((with_reducible refine gate_dst (N := 8) rfl ?_); refine ze 8 #[.slice A l.length cp, .int .i64 0, .int .u64 0] 57 ?_; intro g hg w1 hbox hb; have HI := zM (show IsS57 w w1 g l 0 0 from ⟨A, cp, hbox, by rw [hg]; exact below_size HB.out, HR.out⟩); replace HB := zM (below_step HB.out hb); clear hg hbox hb)
    | ((have h_ : IsS57 w _ g l 0 0 := HI.out); clear h_; go_at_call 46; refine (spec_l1Cur_any1.calls g l 0 0 t1 p1 s1 w _ (by repeat (first | (with_reducible first | exact HI.out | apply IsS57.drewN | apply IsS57.drew) | exact HI.out); done) (by repeat (first | (with_reducible first | exact HB.out | apply pw_below_drewN | apply below_drew1) | exact HB.out); done) E1.out).mono ?_; rintro e w6 ⟨rfl, hi, hb, hk⟩; replace HB := zM hb; replace HI := zM hi; clear hb hi hk)
    | ((with_reducible refine gate_dst (N := 13) rfl ?_); refine Kd.R_lit Kd.string _ 9 ?hg (N := 13) ?hd (xs := ([(⟨#[44]⟩ : ByteArray), (⟨#[44]⟩ : ByteArray), (⟨#[32]⟩ : ByteArray), (⟨#[]⟩ : ByteArray), (⟨#[44, 44]⟩ : ByteArray)] : List ByteArray)) (inner := [.string (⟨#[44]⟩ : ByteArray), .string (⟨#[44]⟩ : ByteArray), .string (⟨#[32]⟩ : ByteArray), .string (⟨#[]⟩ : ByteArray), .string (⟨#[44, 44]⟩ : ByteArray)]) (ok := fun _ => True) (okp := fun _ => True) ?hr ?hp (fun _ hk => hk) trivial (Below.refl _ _) (Nat.le_refl _) (by simp) ?_; (case hd => rfl); (case hg => rfl); (case hr => first | (go_simp; done) | (go_simp; rfl)); (case hp => exact (Reps.one (show Kd.M Kd.string _ _ _ (⟨#[44]⟩ : ByteArray) [.string (⟨#[44]⟩ : ByteArray)] from rfl) (Reps.one (show Kd.M Kd.string _ _ _ (⟨#[44]⟩ : ByteArray) [.string (⟨#[44]⟩ : ByteArray)] from rfl) (Reps.one (show Kd.M Kd.string _ _ _ (⟨#[32]⟩ : ByteArray) [.string (⟨#[32]⟩ : ByteArray)] from rfl) (Reps.one (show Kd.M Kd.string _ _ _ (⟨#[]⟩ : ByteArray) [.string (⟨#[]⟩ : ByteArray)] from rfl) (Reps.one (show Kd.M Kd.string _ _ _ (⟨#[44, 44]⟩ : ByteArray) [.string (⟨#[44, 44]⟩ : ByteArray)] from rfl) (Reps.none _ _))))))); intro v w3 ho hb hg_ hnew_; clear hg_ hnew_; (first | rw [← HT.out] at ho | (simp only [Int.reduceToNat] at ho; rw [← HT.out] at ho)); have HO := zM ho; replace HB := zM (below_step (by repeat (first | (with_reducible first | exact HB.out | apply pw_below_drewN | apply below_drew1) | exact HB.out); done) hb); replace HI := zM (IsS57.below (by repeat (first | (with_reducible first | exact HI.out | apply IsS57.drewN | apply IsS57.drew) | exact HI.out); done) hb); clear hb ho; obtain ⟨Ao, co, eo⟩ := Kd.R_slice HO.out; subst eo)
    | ((have h_ : IsS57 w _ g l p1 s1 := HI.out); clear h_; go_at_call 47; refine (spec_l1Cur_of.calls g l p1 s1 Ao co ts t2 p2 s2 w _ (by repeat (first | (with_reducible first | exact HI.out | apply IsS57.drewN | apply IsS57.drew) | exact HI.out); done) (by repeat (first | (with_reducible first | exact HB.out | apply pw_below_drewN | apply below_drew1) | exact HB.out); done) (zC (Kd.R_reads' HO.out).2.2) (Kd.R_reads' HO.out).2.1 (far_slice (IsS57.own_ne HI.out HO.out (by decide))) E2.out).mono ?_; rintro e w6 ⟨rfl, hi, hb, hk⟩; replace HB := zM hb; replace HI := zM hi; clear hb hi hk))
  go_ret2
  exact ⟨rfl, HB.out⟩
/-- A string of zeros, out of a new slice of bytes. -/
theorem conv_zeros {o : Oper} {a : Act} {W : World} {base n : Nat} {v : Value} {ok : Nat → Prop} (z : ByteArray) (x : Operand) (ho : o.op = .convert 33 9 x) (hx : a.eval x = v) (hz : z = strOfNums (List.replicate n 0)) (h : Kd.R (Kd.int .u8) 5 W base ok v (List.replicate n 0)) (hn : 0 < n) : (execOp a.eval o).run Tryd.prog W = .ok (.value (.string z)) W := by
  subst hz
  obtain ⟨g, cap, rfl, hg, hl, cells, hc⟩ := Kd.R_form h (by rw [List.length_replicate]; exact hn)
  have hr := (Kd.R_reads' h).2.2
  have hrun := run_convert_bytes_arg (P := Tryd.prog) W 33 5 Tryd.underlying33 (by kernel_rfl) g 0 (List.replicate n (0 : Int)).length cap (List.replicate n 0) rfl (fun i hi => by
    obtain ⟨ad, e, h0⟩ := Kd.at_int hr (i : Int) (by omega) (by omega)
    cases e
    rw [Int.toNat_natCast, add_plain] at h0
    rw [Nat.zero_add, h0]
    simp [rd]) 9 (by kernel_rfl)
  rw [List.length_replicate] at hrun hx
  simp [execOp, ho, hx, hrun]

set_option maxRecDepth 100000 in
set_option maxHeartbeats 8000000 in
theorem spec_DrawJoinStrings_calls (A : Option Addr) (cp : Nat) (l : List Int) (w : World) (hr : Kd.C (Kd.int .u8) w A l.length l) (hc : l.length ≤ cp) (hl : isCode l) :
    Calls Tryd.prog 23 #[.slice A l.length cp] w fun e w' => (∃ A5 c5 ts mark, e = .returned (.tuple #[.slice A5 ts.length c5, .string mark]) ∧ ts.length ≤ 5 ∧ (∀ t ∈ ts, t.size ≤ 4100) ∧ mark.size ≤ 2 ∧ Kd.R Kd.string 9 w' w.heap.size (fun _ => True) (.slice A5 ts.length c5) ts) ∧ Below w.heap.size w w' := by
  obtain ⟨b1, p1, s1, e1, z1, z1b, b1a, b1b⟩ := pick_some (s := 0) (n := 4) hl (Int.le_refl 0) (by omega)
  obtain ⟨n, rfl⟩ := Int.eq_ofNat_of_zero_le z1
  have HN := zM (show n ≤ 4 by omega)
  have HP1 := zM (show 0 ≤ p1 ∧ p1 ≤ 2 by omega)
  obtain ⟨mk, hmk⟩ : ∃ ts : List ByteArray, ts = ([(⟨#[44]⟩ : ByteArray), (⟨#[59]⟩ : ByteArray), (⟨#[59]⟩ : ByteArray), (⟨#[]⟩ : ByteArray), (⟨#[97, 98]⟩ : ByteArray)] : List ByteArray) := ⟨_, rfl⟩
  have HMK := zM hmk
  have hmk2 : ∀ t ∈ mk, t.size ≤ 2 := by
    subst hmk
    intro t ht
    simp only [List.mem_cons, List.not_mem_nil, or_false] at ht
    rcases ht with rfl | rfl | rfl | rfl | rfl <;> decide
  have hmk3 : 0 < mk.length := by subst hmk; decide
  have HB := zM (Below.refl w.heap.size w)
  have HR := zM hr
  have E1 := zM e1
  have HL := zM hl
  have HMS := zM hmk2
  have HMT := zM hmk3
  clear e1 z1 z1b b1a b1b hl hr hc hmk hmk2 hmk3
  go_enter Tryd.func23, Tryd.ntmps23
  go_wp2_with (first
    | ((with_reducible refine gate_dst (N := 10) rfl ?_); refine ze 10 #[.slice A l.length cp, .int .i64 0, .int .u64 0] 57 ?_; intro g hg w1 hbox hb; have HI := zM (show IsS57 w w1 g l 0 0 from ⟨A, cp, hbox, by rw [hg]; exact below_size HB.out, HR.out⟩); replace HB := zM (below_step HB.out hb); clear hg hbox hb)
    | ((with_reducible refine gate_dst (N := 11) rfl ?_); refine Kd.R_lit Kd.string w.heap.size 9 ?hg (N := 11) ?hd (w0 := w) (xs := ([] : List ByteArray)) (inner := []) (ok := fun _ => True) (okp := fun _ => True) ?hr ?hp (fun _ hk => hk) trivial (by (repeat (first | (with_reducible first | exact HB.out | apply pw_below_drewN | apply below_drew1) | exact HB.out)); done) (below_size (by (repeat (first | (with_reducible first | exact HB.out | apply pw_below_drewN | apply below_drew1) | exact HB.out)); done)) (by simp) ?_; (case hd => rfl); (case hg => rfl); (case hr => first | (go_simp; done) | (go_simp; rfl)); (case hp => exact (Reps.none _ _)); intro v w3 ho hb hg_ hnew_; clear hnew_; replace HI := zM (IsS57.grown (by (repeat (first | (with_reducible first | exact HI.out | apply IsS57.drewN | apply IsS57.drew) | exact HI.out)); done) hg_ (by simp)); replace HB := zM hb; clear hb hg_; obtain ⟨A5, c5, e5⟩ := Kd.R_slice ho; subst e5; have HO := zM ho; clear ho)
    | ((have h_ : IsS57 w _ g l 0 0 := HI.out); clear h_; go_at_call 48; refine (spec_l1Cur_pick.calls g l 0 0 4 (n : Int) p1 s1 w _ (by (repeat (first | (with_reducible first | exact HI.out | apply IsS57.drewN | apply IsS57.drew) | exact HI.out)); done) (by (repeat (first | (with_reducible first | exact HB.out | apply pw_below_drewN | apply below_drew1) | exact HB.out)); done) E1.out).mono ?_; rintro e w6 ⟨rfl, hi, hb, hk⟩; replace HO := zM (Kd.R_mono (Kd.R_keep (IsS57.apart (by (repeat (first | (with_reducible first | exact HI.out | apply IsS57.drewN | apply IsS57.drew) | exact HI.out)); done) (zR HO.out) (by decide)) hk (fun _ h => h.2)) (fun _ h => h.1)); replace HB := zM hb; replace HI := zM hi; clear hb hi hk))
  go_loopg [7, 5] (n + 1) (fun kq v7 v5 w' => ∃ (m : Nat) (ts : List ByteArray) (A5 : Option Addr) (c5 : Nat) (p s : Int), v7 = .int .i64 m ∧ v5 = .slice A5 ts.length c5 ∧ Aside0 (m ≤ n) ∧ Aside0 (kq = n - m + 1) ∧ Aside0 (ts.length = m) ∧ Aside0 (∀ t ∈ ts, t.size ≤ 10) ∧ Aside0 (0 ≤ p ∧ p ≤ 2 + 2 * (m : Int)) ∧ Aside0 (IsS57 w w' g l p s) ∧ Aside0 (Kd.R Kd.string 9 w' w.heap.size (fun _ => True) (.slice A5 ts.length c5) ts) ∧ Aside0 (Below w.heap.size w w'))
  case atStart => exact ⟨0, [], A5, c5, p1, s1, rfl, rfl, ⟨Nat.zero_le _⟩, ⟨by omega⟩, ⟨rfl⟩, ⟨fun _ h => absurd h (by simp)⟩, ⟨by have := HP1.out; omega⟩, ⟨(by (repeat (first | (with_reducible first | exact HI.out | apply IsS57.drewN | apply IsS57.drew) | exact HI.out)); done)⟩, ⟨zR HO.out⟩, ⟨(by (repeat (first | (with_reducible first | exact HB.out | apply pw_below_drewN | apply below_drew1) | exact HB.out)); done)⟩⟩
  case round =>
    clear HO HI HB
    obtain ⟨m, ts, A5, c5, p, s, rfl, rfl, HM, HK1, HTL, HTS, HP, HI, HO, HB⟩ := hrel
    have hm4 : m ≤ 4 := Nat.le_trans HM.out HN.out
    by_cases c1 : m < n
    · have q1 : (m : Int) < (n : Int) := by omega
      have c1b : decide ((m : Int) < (n : Int)) = true := decide_eq_true q1
      have c1c : decide (m < n) = true := decide_eq_true c1
      have hw1 : (m : Int) + 1 ≤ 9223372036854775807 := by omega
      obtain ⟨t1, p2, s2, e2, zt, b2a, b2b⟩ := any1_some (s := s) HL.out HP.out.1 (by have := HP.out.2; omega)
      have E2 := zM e2
      have HZ := zM zt
      have HP2 := zM (show 0 ≤ p2 ∧ p2 ≤ 2 + 2 * ((m + 1 : Nat) : Int) by have := HP.out; omega)
      have HC1 := zM c1
      clear e2 zt b2a b2b c1 hm4
      go_wp2_with (first
        | ((have h_ : IsS57 w _ g l p s := HI.out); clear h_; go_at_call 46; refine (spec_l1Cur_any1.calls g l p s t1 p2 s2 w _ (by (repeat (first | (with_reducible first | exact HI.out | apply IsS57.drewN | apply IsS57.drew) | exact HI.out)); done) (by (repeat (first | (with_reducible first | exact HB.out | apply pw_below_drewN | apply below_drew1) | exact HB.out)); done) E2.out).mono ?_; rintro e w6 ⟨rfl, hi, hb, hk⟩; replace HO := zM (Kd.R_mono (Kd.R_keep (IsS57.apart (by (repeat (first | (with_reducible first | exact HI.out | apply IsS57.drewN | apply IsS57.drew) | exact HI.out)); done) (zR HO.out) (by decide)) hk (fun _ h => h.2)) (fun _ h => h.1)); replace HB := zM hb; replace HI := zM hi; clear hb hi hk)
        | ((with_reducible refine gate_builtin (b := .append) (xs := #[.tmp 19, .tmp 22]) rfl ?_); at_builtin; refine Kd.R_append Kd.string (w0 := w) w.heap.size rfl (.tmp 19) (.tmp 22) 25 9 (.string ⟨#[]⟩) 16 rfl Tryd.underlying25 info9 rfl (by decide) (by omega) (.slice A5 ts.length c5) ts t1 [.string t1] (fun _ => True) (fun _ => False) rfl rfl ?aP (fun _ hk => hk.elim) ?aF ?aO ?aB ?aS ?aL ?_; (case aP => exact rfl); (case aB => exact zB); (case aF => exact (fun _ _ => trivial)); (case aO => exact (zR HO.out)); (case aS => exact (below_size zB)); (case aL => have := HTL.out; have := HM.out; have := HN.out; omega); intro v9 w9 ho hb hg_ hat; obtain ⟨t9, ht9⟩ : ∃ t9, t9 = ts ++ [t1] := ⟨_, rfl⟩; rw [← ht9] at ho; have HT9 := zM ht9; clear ht9; obtain ⟨A9, c9, e9⟩ := Kd.R_slice ho; subst e9; replace HI := zM (IsS57.grown (by (repeat (first | (with_reducible first | exact HI.out | apply IsS57.drewN | apply IsS57.drew) | exact HI.out)); done) hg_ (IsS57.own_ne HI.out HO.out (by decide))); replace HB := zM hb; replace HO := zM ho; clear ho hb hg_ hat))
      go_roundg (n - m)
      case measure => have := HK1.out; have := HC1.out; omega
      case rel => exact ⟨m + 1, t9, A9, c9, p2, s2, by first | rfl | (simp; done) | go_num, rfl, ⟨by have := HC1.out; omega⟩, ⟨by have := HC1.out; omega⟩, ⟨by rw [HT9.out, List.length_append, List.length_singleton, HTL.out]⟩, ⟨by
          rw [HT9.out]
          intro t ht
          rcases List.mem_append.1 ht with h | h
          · exact HTS.out t h
          · rw [List.mem_singleton] at h; subst h; exact HZ.out⟩, HP2, ⟨(by (repeat (first | (with_reducible first | exact HI.out | apply IsS57.drewN | apply IsS57.drew) | exact HI.out)); done)⟩, ⟨zR HO.out⟩, ⟨(by (repeat (first | (with_reducible first | exact HB.out | apply pw_below_drewN | apply below_drew1) | exact HB.out)); done)⟩⟩
    · have q1 : ¬ (m : Int) < (n : Int) := by omega
      have c1b : decide ((m : Int) < (n : Int)) = false := decide_eq_false q1
      have c1c : decide (m < n) = false := decide_eq_false c1
      obtain ⟨bb, p2, s2, e2, b2a, b2b⟩ := one_some (s := s) (n := 20) HL.out HP.out.1 (by have := HP.out.2; omega)
      have hp2 : 0 ≤ p2 ∧ p2 ≤ 12 := by have := HP.out; omega
      have E2 := zM e2
      have HM4 := zM hm4
      clear e2 b2a b2b c1 hm4
      cases bb with
      | false =>
        obtain ⟨t3, p3, s3, e3, z3, b3a, b3b⟩ := of_some (s := s2) (ts := mk) HL.out hp2.1 (by omega) HMT.out
        have E3 := zM e3
        have HZ := zM (HMS.out t3 z3)
        clear e3 z3 b3a b3b hp2
        go_wp2_with (first
          | ((have h_ : IsS57 w _ g l p s := HI.out); clear h_; go_at_call 49; refine (spec_l1Cur_one.calls g l p s 20 false p2 s2 w _ (by (repeat (first | (with_reducible first | exact HI.out | apply IsS57.drewN | apply IsS57.drew) | exact HI.out)); done) (by (repeat (first | (with_reducible first | exact HB.out | apply pw_below_drewN | apply below_drew1) | exact HB.out)); done) E2.out).mono ?_; rintro e w6 ⟨rfl, hi, hb, hk⟩; replace HO := zM (Kd.R_mono (Kd.R_keep (IsS57.apart (by (repeat (first | (with_reducible first | exact HI.out | apply IsS57.drewN | apply IsS57.drew) | exact HI.out)); done) (zR HO.out) (by decide)) hk (fun _ h => h.2)) (fun _ h => h.1)); replace HB := zM hb; replace HI := zM hi; clear hb hi hk)
          | ((with_reducible refine gate_dst (N := 36) rfl ?_); refine Kd.R_lit Kd.string w.heap.size 9 ?hg (N := 36) ?hd (w0 := w) (xs := ([(⟨#[44]⟩ : ByteArray), (⟨#[59]⟩ : ByteArray), (⟨#[59]⟩ : ByteArray), (⟨#[]⟩ : ByteArray), (⟨#[97, 98]⟩ : ByteArray)] : List ByteArray)) (inner := [.string (⟨#[44]⟩ : ByteArray), .string (⟨#[59]⟩ : ByteArray), .string (⟨#[59]⟩ : ByteArray), .string (⟨#[]⟩ : ByteArray), .string (⟨#[97, 98]⟩ : ByteArray)]) (ok := fun _ => True) (okp := fun _ => True) ?hr ?hp (fun _ hk => hk) trivial (by (repeat (first | (with_reducible first | exact HB.out | apply pw_below_drewN | apply below_drew1) | exact HB.out)); done) (below_size (by (repeat (first | (with_reducible first | exact HB.out | apply pw_below_drewN | apply below_drew1) | exact HB.out)); done)) (by simp) ?_; (case hd => rfl); (case hg => rfl); (case hr => first | (go_simp; done) | (go_simp; rfl)); (case hp => exact (Reps.one (show Kd.M Kd.string _ _ _ (⟨#[44]⟩ : ByteArray) [.string (⟨#[44]⟩ : ByteArray)] from rfl) (Reps.one (show Kd.M Kd.string _ _ _ (⟨#[59]⟩ : ByteArray) [.string (⟨#[59]⟩ : ByteArray)] from rfl) (Reps.one (show Kd.M Kd.string _ _ _ (⟨#[59]⟩ : ByteArray) [.string (⟨#[59]⟩ : ByteArray)] from rfl) (Reps.one (show Kd.M Kd.string _ _ _ (⟨#[]⟩ : ByteArray) [.string (⟨#[]⟩ : ByteArray)] from rfl) (Reps.one (show Kd.M Kd.string _ _ _ (⟨#[97, 98]⟩ : ByteArray) [.string (⟨#[97, 98]⟩ : ByteArray)] from rfl) (Reps.none _ _))))))); intro v w3 ho hb hg_ hnew_; clear hnew_; (first | rw [← HMK.out] at ho | (simp only [Int.reduceToNat] at ho; rw [← HMK.out] at ho)); replace HO := zM (Kd.R_grown (zR HO.out) hg_ (fun _ _ => by simp)); replace HI := zM (IsS57.grown (by (repeat (first | (with_reducible first | exact HI.out | apply IsS57.drewN | apply IsS57.drew) | exact HI.out)); done) hg_ (by simp)); replace HB := zM hb; clear hb hg_; obtain ⟨Ao, co, eo⟩ := Kd.R_slice ho; subst eo; have HQ := zM ho; clear ho)
          | ((have h_ : IsS57 w _ g l p2 s2 := HI.out); clear h_; go_at_call 47; refine (spec_l1Cur_of.calls g l p2 s2 Ao co mk t3 p3 s3 w _ (by (repeat (first | (with_reducible first | exact HI.out | apply IsS57.drewN | apply IsS57.drew) | exact HI.out)); done) (by (repeat (first | (with_reducible first | exact HB.out | apply pw_below_drewN | apply below_drew1) | exact HB.out)); done) (zC (Kd.R_reads' HQ.out).2.2) (Kd.R_reads' HQ.out).2.1 (far_slice (IsS57.own_ne HI.out HQ.out (by decide))) E3.out).mono ?_; rintro e w6 ⟨rfl, hi, hb, hk⟩; replace HO := zM (Kd.R_mono (Kd.R_keep (IsS57.apart (by (repeat (first | (with_reducible first | exact HI.out | apply IsS57.drewN | apply IsS57.drew) | exact HI.out)); done) (zR HO.out) (by decide)) hk (fun _ h => h.2)) (fun _ h => h.1)); replace HB := zM hb; replace HI := zM hi; clear hb hi hk))
        go_ret2
        exact ⟨⟨A5, c5, ts, t3, rfl, by have := HM4.out; have := HTL.out; omega, fun t ht => Nat.le_trans (HTS.out t ht) (by omega), HZ.out, zR HO.out⟩, (by (repeat (first | (with_reducible first | exact HB.out | apply pw_below_drewN | apply below_drew1) | exact HB.out)); done)⟩
      | true =>
        obtain ⟨b4, p4, s4, e4, z4, z4b, b4a, b4b⟩ := pick_some (s := s2) (n := 20) HL.out hp2.1 (by omega)
        obtain ⟨k, rfl⟩ := Int.eq_ofNat_of_zero_le z4
        obtain ⟨t3, p3, s3, e3, z3, b3a, b3b⟩ := of_some (p := p4) (s := s4) (ts := mk) HL.out (by omega) (by omega) HMT.out
        have E3 := zM e3
        have E4 := zM e4
        have HZ := zM (HMS.out t3 z3)
        have HK := zM (show k ≤ 20 by omega)
        clear e3 z3 b3a b3b hp2 z4 z4b e4 b4a b4b
        obtain ⟨K, hK⟩ : ∃ K : Nat, K = 3990 + k := ⟨_, rfl⟩
        have hk20 : k ≤ 20 := HK.out
        obtain ⟨zx, hzx⟩ : ∃ z : ByteArray, z = strOfNums (List.replicate K 0) := ⟨_, rfl⟩
        have HZX := zM hzx
        have n1 : (3990 : Int) + (k : Int) = (K : Int) := by omega
        have n2 : wrap64 (K : Int) = (K : Int) := wrap_nat (by omega) (by omega)
        have n3 : wrap64 ((3990 : Int) + (k : Int)) = (K : Int) := by rw [n1, n2]
        have HKK := zM (show 0 < K ∧ K ≤ 4010 by omega)
        have HZN := zM (show zx.size = K by rw [hzx, strOfNums_size, List.length_replicate])
        clear hK hk20
        clear hzx
        go_wp2_with (first
          | ((have h_ : IsS57 w _ g l p s := HI.out); clear h_; go_at_call 49; refine (spec_l1Cur_one.calls g l p s 20 true p2 s2 w _ (by (repeat (first | (with_reducible first | exact HI.out | apply IsS57.drewN | apply IsS57.drew) | exact HI.out)); done) (by (repeat (first | (with_reducible first | exact HB.out | apply pw_below_drewN | apply below_drew1) | exact HB.out)); done) E2.out).mono ?_; rintro e w6 ⟨rfl, hi, hb, hk⟩; replace HO := zM (Kd.R_mono (Kd.R_keep (IsS57.apart (by (repeat (first | (with_reducible first | exact HI.out | apply IsS57.drewN | apply IsS57.drew) | exact HI.out)); done) (zR HO.out) (by decide)) hk (fun _ h => h.2)) (fun _ h => h.1)); replace HB := zM hb; replace HI := zM hi; clear hb hi hk)
          | ((have h_ : IsS57 w _ g l p2 s2 := HI.out); clear h_; go_at_call 48; refine (spec_l1Cur_pick.calls g l p2 s2 20 (k : Int) p4 s4 w _ (by (repeat (first | (with_reducible first | exact HI.out | apply IsS57.drewN | apply IsS57.drew) | exact HI.out)); done) (by (repeat (first | (with_reducible first | exact HB.out | apply pw_below_drewN | apply below_drew1) | exact HB.out)); done) E4.out).mono ?_; rintro e w6 ⟨rfl, hi, hb, hk⟩; replace HO := zM (Kd.R_mono (Kd.R_keep (IsS57.apart (by (repeat (first | (with_reducible first | exact HI.out | apply IsS57.drewN | apply IsS57.drew) | exact HI.out)); done) (zR HO.out) (by decide)) hk (fun _ h => h.2)) (fun _ h => h.1)); replace HB := zM hb; replace HI := zM hi; clear hb hi hk)
          | ((with_reducible refine gate_dst (N := 30) rfl ?_); refine Kd.R_make (Kd.int .u8) w.heap.size 5 rfl (w0 := w) (N := 30) rfl 33 (.tmp 29) (.tmp 29) rfl (K : Int) ?hx ?hy Tryd.underlying33 (.int .u8 0) 1 info5 rfl (by decide) (by decide) 0 (ok := fun _ => True) (okp := fun _ => True) ?hz (fun _ hk => hk) trivial (by omega) ?hl (by (repeat (first | (with_reducible first | exact HB.out | apply pw_below_drewN | apply below_drew1) | exact HB.out)); done) (below_size (by (repeat (first | (with_reducible first | exact HB.out | apply pw_below_drewN | apply below_drew1) | exact HB.out)); done)) ?_; (case hx => first | (go_simp; done) | (go_simp; rfl) | rfl); (case hy => first | (go_simp; done) | (go_simp; rfl) | rfl); (case hz => exact rfl); (case hl => have := HKK.out; omega); intro v30 w30 ho hb hg_ hnew_; clear hnew_; rw [Int.toNat_natCast] at ho; replace HO := zM (Kd.R_grown (zR HO.out) hg_ (fun _ _ => by simp)); replace HI := zM (IsS57.grown (by (repeat (first | (with_reducible first | exact HI.out | apply IsS57.drewN | apply IsS57.drew) | exact HI.out)); done) hg_ (by simp)); replace HB := zM hb; obtain ⟨A30, c30, e30⟩ := Kd.R_slice ho; rw [List.length_replicate] at e30; subst e30; have HV := zM ho; clear ho hb hg_)
          | ((with_reducible refine gate_dst (N := 31) rfl ?_); refine Kd.event_run rfl (conv_zeros zx (.tmp 30) rfl rfl HZX.out (zR HV.out) HKK.out.1) ?_)
          | ((with_reducible refine gate_builtin (b := .append) (xs := #[.tmp 26, .tmp 32]) rfl ?_); at_builtin; refine Kd.R_append Kd.string (w0 := w) w.heap.size rfl (.tmp 26) (.tmp 32) 25 9 (.string ⟨#[]⟩) 16 rfl Tryd.underlying25 info9 rfl (by decide) (by omega) (.slice A5 ts.length c5) ts zx [.string zx] (fun _ => True) (fun _ => False) rfl rfl ?aP (fun _ hk => hk.elim) ?aF ?aO ?aB ?aS ?aL ?_; (case aP => exact rfl); (case aB => exact zB); (case aF => exact (fun _ _ => trivial)); (case aO => exact (zR HO.out)); (case aS => exact (below_size zB)); (case aL => have := HTL.out; have := HM4.out; omega); intro v9 w9 ho hb hg_ hat; obtain ⟨t9, ht9⟩ : ∃ t9, t9 = ts ++ [zx] := ⟨_, rfl⟩; rw [← ht9] at ho; have HT9 := zM ht9; clear ht9; obtain ⟨A9, c9, e9⟩ := Kd.R_slice ho; subst e9; replace HI := zM (IsS57.grown (by (repeat (first | (with_reducible first | exact HI.out | apply IsS57.drewN | apply IsS57.drew) | exact HI.out)); done) hg_ (IsS57.own_ne HI.out HO.out (by decide))); replace HB := zM hb; replace HO := zM ho; clear ho hb hg_ hat)
          | ((with_reducible refine gate_dst (N := 36) rfl ?_); refine Kd.R_lit Kd.string w.heap.size 9 ?hg (N := 36) ?hd (w0 := w) (xs := ([(⟨#[44]⟩ : ByteArray), (⟨#[59]⟩ : ByteArray), (⟨#[59]⟩ : ByteArray), (⟨#[]⟩ : ByteArray), (⟨#[97, 98]⟩ : ByteArray)] : List ByteArray)) (inner := [.string (⟨#[44]⟩ : ByteArray), .string (⟨#[59]⟩ : ByteArray), .string (⟨#[59]⟩ : ByteArray), .string (⟨#[]⟩ : ByteArray), .string (⟨#[97, 98]⟩ : ByteArray)]) (ok := fun _ => True) (okp := fun _ => True) ?hr ?hp (fun _ hk => hk) trivial (by (repeat (first | (with_reducible first | exact HB.out | apply pw_below_drewN | apply below_drew1) | exact HB.out)); done) (below_size (by (repeat (first | (with_reducible first | exact HB.out | apply pw_below_drewN | apply below_drew1) | exact HB.out)); done)) (by simp) ?_; (case hd => rfl); (case hg => rfl); (case hr => first | (go_simp; done) | (go_simp; rfl)); (case hp => exact (Reps.one (show Kd.M Kd.string _ _ _ (⟨#[44]⟩ : ByteArray) [.string (⟨#[44]⟩ : ByteArray)] from rfl) (Reps.one (show Kd.M Kd.string _ _ _ (⟨#[59]⟩ : ByteArray) [.string (⟨#[59]⟩ : ByteArray)] from rfl) (Reps.one (show Kd.M Kd.string _ _ _ (⟨#[59]⟩ : ByteArray) [.string (⟨#[59]⟩ : ByteArray)] from rfl) (Reps.one (show Kd.M Kd.string _ _ _ (⟨#[]⟩ : ByteArray) [.string (⟨#[]⟩ : ByteArray)] from rfl) (Reps.one (show Kd.M Kd.string _ _ _ (⟨#[97, 98]⟩ : ByteArray) [.string (⟨#[97, 98]⟩ : ByteArray)] from rfl) (Reps.none _ _))))))); intro v w3 ho hb hg_ hnew_; clear hnew_; (first | rw [← HMK.out] at ho | (simp only [Int.reduceToNat] at ho; rw [← HMK.out] at ho)); replace HO := zM (Kd.R_grown (zR HO.out) hg_ (fun _ _ => by simp)); replace HI := zM (IsS57.grown (by (repeat (first | (with_reducible first | exact HI.out | apply IsS57.drewN | apply IsS57.drew) | exact HI.out)); done) hg_ (by simp)); replace HB := zM hb; clear hb hg_; obtain ⟨Ao, co, eo⟩ := Kd.R_slice ho; subst eo; have HQ := zM ho; clear ho)
          | ((have h_ : IsS57 w _ g l p4 s4 := HI.out); clear h_; go_at_call 47; refine (spec_l1Cur_of.calls g l p4 s4 Ao co mk t3 p3 s3 w _ (by (repeat (first | (with_reducible first | exact HI.out | apply IsS57.drewN | apply IsS57.drew) | exact HI.out)); done) (by (repeat (first | (with_reducible first | exact HB.out | apply pw_below_drewN | apply below_drew1) | exact HB.out)); done) (zC (Kd.R_reads' HQ.out).2.2) (Kd.R_reads' HQ.out).2.1 (far_slice (IsS57.own_ne HI.out HQ.out (by decide))) E3.out).mono ?_; rintro e w6 ⟨rfl, hi, hb, hk⟩; replace HO := zM (Kd.R_mono (Kd.R_keep (IsS57.apart (by (repeat (first | (with_reducible first | exact HI.out | apply IsS57.drewN | apply IsS57.drew) | exact HI.out)); done) (zR HO.out) (by decide)) hk (fun _ h => h.2)) (fun _ h => h.1)); replace HB := zM hb; replace HI := zM hi; clear hb hi hk))
        go_ret2
        exact ⟨⟨A9, c9, t9, t3, rfl, by rw [HT9.out, List.length_append, List.length_singleton]; have := HM4.out; have := HTL.out; omega, by
          rw [HT9.out]
          intro t ht
          rcases List.mem_append.1 ht with h | h
          · exact Nat.le_trans (HTS.out t h) (by omega)
          · rw [List.mem_singleton] at h; subst h; have := HZN.out; have := HKK.out; omega, HZ.out, zR HO.out⟩, (by (repeat (first | (with_reducible first | exact HB.out | apply pw_below_drewN | apply below_drew1) | exact HB.out)); done)⟩
end Go.Proofs.YtcjfmohmjhjpoaaDoor.P
namespace Go.Proofs.YtcjfmohmjhjpoaaDoor.P
open Go.RowKit Go.Proofs.YtcjfmohmjhjpoaaDoorW.PrintWords Go.Proofs.YtcjfmohmjhjpoaaDoorW.PrintLast Go.Proofs.YtcjfmohmjhjpoaaDoorW.PrintMore
set_option linter.unusedVariables false
set_option linter.unusedSimpArgs false
theorem less_asym : ∀ a b : List UInt8, (Op.bytesLess a b && Op.bytesLess b a) = false
  | [], [] => rfl
  | [], _ :: _ => rfl
  | _ :: _, [] => rfl
  | a :: x, b :: y => by
    have ih := less_asym x y
    simp only [Op.bytesLess]
    cases h1 : decide (a < b) with
    | true =>
      have h2 : a < b := of_decide_eq_true h1
      have h3 : ¬ b < a := fun h => absurd (UInt8.lt_trans h2 h) (UInt8.lt_irrefl a)
      have h4 : (b == a) = false := beq_eq_false_iff_ne.mpr (fun e => by subst e; exact UInt8.lt_irrefl _ h2)
      rw [decide_eq_false h3, h4]; simp
    | false =>
      cases h5 : (a == b) with
      | true =>
        have e : a = b := eq_of_beq h5
        subst e
        rw [h1]
        simpa using ih
      | false => simp
theorem spl_join (c : UInt8) : ∀ l : List UInt8, Lib.join (spl c l) [c] = l
  | [] => by rw [spl, Lib.join_one]
  | b :: l => by
    have ih := spl_join c l
    rw [spl]
    have hne := spl_ne c l
    cases hz : spl c l with
    | nil => exact absurd hz hne
    | cons x r =>
      rw [hz] at ih
      by_cases h : b = c
      · rw [if_pos h, Lib.join_cons, List.nil_append]
        rw [Lib.join_cons] at ih
        show ([c] ++ x) ++ Lib.joinTail [c] r = b :: l
        rw [List.append_assoc, ih, h]
        rfl
      · rw [if_neg h]
        show Lib.join (([b] ++ x) :: r) [c] = b :: l
        rw [Lib.join_cons] at ih ⊢
        rw [List.append_assoc, ih]
        rfl
theorem spl_free (c : UInt8) : ∀ l : List UInt8, ∀ x ∈ spl c l, c ∉ x
  | [] => by intro x hx; rw [spl] at hx; simp at hx; subst hx; simp
  | b :: l => by
    have ih := spl_free c l
    intro x hx
    rw [spl] at hx
    by_cases h : b = c
    · rw [if_pos h] at hx
      rcases List.mem_cons.1 hx with rfl | hx
      · simp
      · exact ih x hx
    · rw [if_neg h] at hx
      have hne := spl_ne c l
      cases hz : spl c l with
      | nil => exact absurd hz hne
      | cons y r =>
        rw [hz] at hx ih
        rcases List.mem_cons.1 (show x ∈ ([b] ++ y) :: r from hx) with rfl | hx
        · intro hc
          rcases List.mem_append.1 hc with hc | hc
          · exact h (List.mem_singleton.1 hc).symm
          · exact ih y (List.mem_cons_self ..) hc
        · exact ih x (List.mem_cons_of_mem _ hx)
theorem str_list (x : List UInt8) : (str x).data.toList = x := by simp [str]
theorem split_back (s : ByteArray) (c : UInt8) (hs : s.size ≤ 4000) : joinR (splitR s ⟨#[c]⟩).1 ⟨#[c]⟩ = (s, true) := by
  have e1 : (splitR s ⟨#[c]⟩).1 = (spl c s.data.toList).map str := by
    unfold splitR
    rw [if_pos ⟨rfl, hs⟩]
    rfl
  rw [e1]
  have e2 : joinB ⟨#[c]⟩ ((spl c s.data.toList).map str) = s := by
    rw [← join_lib, List.map_map]
    have e3 : ((fun x : ByteArray => x.data.toList) ∘ str) = id := by funext x; exact str_list x
    have e4 : (spl c s.data.toList).map ((·.data.toList) ∘ str) = spl c s.data.toList := by
      show (spl c s.data.toList).map ((fun x : ByteArray => x.data.toList) ∘ str) = _
      rw [e3, List.map_id]
    rw [e4]
    show (⟨(Lib.join (spl c s.data.toList) [c]).toArray⟩ : ByteArray) = s
    rw [spl_join]
  unfold joinR
  rw [e2]
  refine if_pos ⟨rfl, ?_, ?_, hs⟩
  · intro h
    exact spl_ne c s.data.toList (List.map_eq_nil_iff.1 h)
  · show clean c _ = true
    unfold clean
    rw [Bool.not_eq_true', List.any_eq_false]
    intro x hx
    obtain ⟨y, hy, rfl⟩ := List.mem_map.1 hx
    rw [str_list]
    simpa using spl_free c s.data.toList y hy
theorem split_sizes (s : ByteArray) (c : UInt8) (hs : s.size ≤ 4000) : sizes (splitR s ⟨#[c]⟩).1 ≤ s.size + 1 := by
  have h := split_back s c hs
  generalize (splitR s ⟨#[c]⟩).1 = l at h
  unfold joinR at h
  split at h
  next h1 =>
    have e : joinB ⟨#[c]⟩ l = s := congrArg Prod.fst h
    have := joinB_size ⟨#[c]⟩ rfl l h1.2.1
    rw [e] at this
    omega
  next => exact absurd (congrArg Prod.snd h) (by simp)
theorem sizes_bound (N : Nat) : ∀ l : List ByteArray, (∀ t ∈ l, t.size ≤ N) → sizes l ≤ N * l.length
  | [], _ => by simp [sizes]
  | x :: l, h => by
    have h1 := sizes_bound N l (fun t ht => h t (List.mem_cons_of_mem _ ht))
    have h2 := h x (List.mem_cons_self ..)
    rw [sizes, List.length_cons, Nat.mul_succ]
    omega
end Go.Proofs.YtcjfmohmjhjpoaaDoor.P
namespace Go.Proofs.YtcjfmohmjhjpoaaDoor.P
open Go.RowKit Go.ChangeShapes Go.Proofs.YtcjfmohmjhjpoaaDoorW.PrintWords Go.Proofs.YtcjfmohmjhjpoaaDoorW.PrintLast Go.Proofs.YtcjfmohmjhjpoaaDoorW.PrintMore
set_option linter.unusedVariables false
set_option linter.unusedSimpArgs false
section
variable {H : Type} {enc : TypeId × Value → H} {W : World} {base : Nat} {held : Bool} {fuel : Nat}
theorem read_bytes {v : Value} {y : DataW H × List MemPlace} (h : DataW.trod enc Tryd.prog W base (fun _ => true) held fuel 33 [v] = some y) :
    ∃ (A : Option Addr) (c : Nat) (l : List Int), v = .slice A l.length c ∧ l.length ≤ c ∧ Kd.C (Kd.int .u8) W A l.length l ∧ l.length ≤ 9223372036854775807 ∧ isCode l := by
  rcases open_ints Tryd.underlying33 Tryd.underlying5 (by kernel_rfl) h with ⟨hcs, _⟩ | ⟨a, len, cap, zs, hcs, _, hl, hm, hz, _, hcell, hwf⟩
  · injection hcs with hv _
    exact ⟨none, 0, [], hv, Nat.le_refl _, ⟨rfl, Nat.zero_le _, fun h0 => absurd h0 (Nat.lt_irrefl _)⟩, Nat.zero_le _, fun n hn => by cases hn⟩
  · injection hcs with hv _
    simp only [if_true] at hz
    have hlen : (zs.take len).length = len := by rw [List.length_take]; omega
    refine ⟨some a, cap, zs.take len, by rw [hlen]; exact hv, by omega, ⟨rfl, by unfold maxLen at hm; omega, fun _ => ⟨a, rfl, fun j p hj => ⟨[.int .u8 p], rfl, rfl, fun i u hi => ?_⟩⟩⟩, by rw [hlen]; unfold maxLen at hm; omega, fun n hn => by have h := hwf n (List.mem_of_mem_take hn); simpa [Lit.wf, show IntKind.u8.min = 0 from by decide, show IntKind.u8.max = 255 from by decide] using h⟩
    cases i with
    | succ i => simp at hi
    | zero =>
      have hu : Value.int .u8 p = u := by simpa using hi
      subst hu
      have hj2 := (List.getElem?_eq_some_iff.1 hj).1
      rw [hlen] at hj2
      have hj3 : zs[j]? = some p := by rw [List.getElem?_take, if_pos hj2] at hj; exact hj
      have := hcell j (by omega)
      rw [List.getD_eq_getElem?_getD, hj3] at this
      simpa [show (Kd.int .u8).sz = 1 from rfl] using this
end
end Go.Proofs.YtcjfmohmjhjpoaaDoor.P
