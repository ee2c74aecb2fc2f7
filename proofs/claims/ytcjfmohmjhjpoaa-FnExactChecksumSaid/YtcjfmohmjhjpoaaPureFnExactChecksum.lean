/- The law FnExactChecksum answers true for all strings: both checksums run over the bytes alike; without conditions. -/
import Derived.Test.YtcjfmohmjhjpoaaPFnExactChecksumx1
namespace Go.Proofs.Ytcjfmohmjhjpoaa.Pure
open Go.RowKit Go.Proofs.Ytcjfmohmjhjpoaa.PFnExactChecksum Go.Proofs.YtcjfmohmjhjpoaaW.PrintWords Go.Proofs.YtcjfmohmjhjpoaaW.PrintLast

theorem sums (s : ByteArray) (hs : s.size ≤ 1048576) (n : Nat) : ∀ (h i : Int), 0 ≤ i → (s.size : Int) - i = n →
    ∃ r, spec_l1Sum.l0 (n + 1) s h i = some r ∧ impl_checksum.l0 (n + 1) s h (s.size : Int) i = some r := by
  induction n with
  | zero =>
    intro h i h0 hn
    refine ⟨h, ?_, ?_⟩
    · simp only [spec_l1Sum.l0]; rw [if_neg (by omega)]
    · simp only [impl_checksum.l0]; rw [if_neg (by omega)]
  | succ n ih =>
    intro h i h0 hn
    have hw : wrap64 (i + 1) = i + 1 := by unfold wrap64; omega
    obtain ⟨r, h1, h2⟩ := ih (Int.tmod (wrap64 ((wrap64 ((wrap64 (41 * h)) + (wrap64 (bt s i)))) + 1)) 999979) (i + 1) (by omega) (by omega)
    refine ⟨r, ?_, ?_⟩
    · rw [spec_l1Sum.l0, if_pos (by omega), if_pos h0, hw]; exact h1
    · rw [impl_checksum.l0, if_pos (by omega), if_pos h0, if_pos (by omega), hw]; exact h2

theorem FnExactChecksum : laws_FnExactChecksum.Pure := by
  intro s _
  refine ⟨s.size + 1, ?_⟩
  unfold laws_FnExactChecksum.f
  by_cases hb : (s.size : Int) > 1048576
  · rw [if_pos hb]
  · rw [if_neg hb]
    unfold spec_Checksum.f impl_Checksum.f
    by_cases h4 : (s.size : Int) > 4000
    · rw [if_pos h4, if_pos h4]; rfl
    · rw [if_neg h4, if_neg h4]
      unfold spec_l1Sum.f impl_checksum.f
      obtain ⟨r, h1, h2⟩ := sums s (by omega) s.size 7 0 (by omega) (by omega)
      rw [h1, h2]
      simp

end Go.Proofs.Ytcjfmohmjhjpoaa.Pure
