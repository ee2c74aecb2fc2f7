/- The law FnExactLessString answers true for all strings: the program's LessString and the reference's compare alike; without conditions. -/
import Derived.Test.YtcjfmohmjhjpoaaPFnExactLessStringx1
namespace Go.Proofs.Ytcjfmohmjhjpoaa.Pure
open Go.RowKit Go.Proofs.Ytcjfmohmjhjpoaa.PFnExactLessString Go.Proofs.YtcjfmohmjhjpoaaW.PrintWords Go.Proofs.YtcjfmohmjhjpoaaW.PrintLast

theorem FnExactLessString : laws_FnExactLessString.Pure := by
  intro a b _ _
  unfold laws_FnExactLessString.f spec_LessString.f impl_LessString.f
  simp

end Go.Proofs.Ytcjfmohmjhjpoaa.Pure
