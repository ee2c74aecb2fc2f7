/- Bags of nodes: what is put in is in it; a set's bag has what the set has. -/
import Derived.Test.YtpbngmkhpcgpkaaFactR
import Derived.Test.YtpbngmkhpcgpkaaPx17
import Derived.Test.YtpbngmkhpcgpkaaPx37
namespace Go.Proofs.Ytpbngmkhpcgpkaa.P
open Go.RowKit Go.Proofs.YtpbngmkhpcgpkaaW.PrintWords Go.Proofs.YtpbngmkhpcgpkaaW.PrintLast Go.Proofs.YtpbngmkhpcgpkaaW.PrintMore
set_option linter.unusedVariables false

def hasI (b y : Int) : Bool := Go.bits .and .u64 (shr .u64 b y) 1 == 1
def addI (b x : Int) : Int := Go.bits .or .u64 b (shl .u64 1 x)
theorem addI_fin : ∀ b : Fin 256, ∀ x : Fin 8, (0 ≤ addI b x ∧ addI b x < 256) ∧ ∀ y : Fin 8, hasI (addI b x) y = (hasI b y || decide (y = x)) := by decide +kernel
theorem hasI_zero : ∀ y : Fin 8, hasI 0 y = false := by decide +kernel
theorem fin_of {n : Nat} {b : Int} (h : 0 ≤ b) (h2 : b < (n : Int)) : ∃ i : Fin n, b = ((i.val : Nat) : Int) := ⟨⟨b.toNat, by omega⟩, by show b = ((b.toNat : Nat) : Int); omega⟩
theorem addI_at {b x : Int} (hb : 0 ≤ b ∧ b < 256) (hx : 0 ≤ x ∧ x < 8) : (0 ≤ addI b x ∧ addI b x < 256) ∧ ∀ y, 0 ≤ y → y < 8 → hasI (addI b x) y = (hasI b y || decide (y = x)) := by
  obtain ⟨i, rfl⟩ := fin_of (n := 256) hb.1 hb.2
  obtain ⟨j, rfl⟩ := fin_of (n := 8) hx.1 hx.2
  have h := addI_fin i j
  refine ⟨h.1, fun y h0 h8 => ?_⟩
  obtain ⟨q, rfl⟩ := fin_of (n := 8) h0 h8
  rw [h.2 q]
  congr 1
  rw [decide_eq_decide]
  omega
theorem hasI_nil {y : Int} (h0 : 0 ≤ y) (h8 : y < 8) : hasI 0 y = false := by
  obtain ⟨q, rfl⟩ := fin_of (n := 8) h0 h8
  exact hasI_zero q
theorem bag_has_at {b y : Int} (h0 : 0 ≤ y) : impl_bag_has.f b y = some (hasI b y) := by
  unfold impl_bag_has.f
  rw [if_pos h0]
  rfl
/-- What a set's bag is. -/
def bagI (b : Int) (l : List Int) : Int := l.foldl addI b
theorem bagI_at (l : List Int) : ∀ (b : Int), 0 ≤ b ∧ b < 256 → (∀ x ∈ l, 0 ≤ x ∧ x < 8) → (0 ≤ bagI b l ∧ bagI b l < 256) ∧ ∀ y, 0 ≤ y → y < 8 → hasI (bagI b l) y = (hasI b y || decide (y ∈ l)) := by
  induction l with
  | nil => intro b hb _; exact ⟨hb, fun y _ _ => by simp [bagI]⟩
  | cons x t ih =>
    intro b hb hx
    have h1 := addI_at hb (hx x (List.mem_cons_self ..))
    have h2 := ih (addI b x) h1.1 (fun z hz => hx z (List.mem_cons_of_mem _ hz))
    refine ⟨h2.1, fun y h0 h8 => ?_⟩
    have := h2.2 y h0 h8
    rw [show bagI b (x :: t) = bagI (addI b x) t from rfl, this, h1.2 y h0 h8, Bool.or_assoc]
    congr 1
    rw [Bool.eq_iff_iff]
    simp only [Bool.or_eq_true, decide_eq_true_eq, List.mem_cons]
theorem bagOf_loop (l : List Int) (hl : l.length ≤ 1048576) (hx : ∀ x ∈ l, 0 ≤ x ∧ x < 8) (d : Nat) : ∀ (b : Int) (m : Nat), l.length - m = d → m ≤ l.length →
    Ev (fun k => impl_bagOf.l0 k b l (l.length : Int) (m : Int)) (bagI b (l.drop m)) := by
  induction d with
  | zero =>
    intro b m h0 h1
    refine Ev.step (fun k => by rw [impl_bagOf.l0]) (Ev.neg (by omega) ?_)
    rw [List.drop_eq_nil_of_le (by omega)]
    exact Ev.now _
  | succ d ih =>
    intro b m h0 h1
    have hm : m < l.length := by omega
    have := hx l[m] (List.getElem_mem hm)
    refine Ev.step (fun k => by rw [impl_bagOf.l0]) (Ev.pos (by omega) (Ev.pos (by omega) (Ev.pos (by omega) ?_)))
    rw [rd_at l m hm, List.drop_eq_getElem_cons hm, wrap_up hm (by omega)]
    exact Ev.pos this.1 (ih _ (m + 1) (by omega) (by omega))
theorem bagOf_ev (l : List Int) (hl : l.length ≤ 1048576) (hx : ∀ x ∈ l, 0 ≤ x ∧ x < 8) : Ev (fun k => impl_bagOf.f k l) (bagI 0 l) :=
  bagOf_loop l hl hx l.length 0 0 (by omega) (Nat.zero_le _)
end Go.Proofs.Ytpbngmkhpcgpkaa.P
