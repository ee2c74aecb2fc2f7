/- The law FnExactConstants answers true: each exported constant has the value of the specification; without conditions. -/
import Derived.Test.YtcjfmohmjhjpoaaPFnExactConstantsx1
namespace Go.Proofs.Ytcjfmohmjhjpoaa.Pure
open Go.RowKit Go.Proofs.Ytcjfmohmjhjpoaa.PFnExactConstants Go.Proofs.YtcjfmohmjhjpoaaW.PrintWords Go.Proofs.YtcjfmohmjhjpoaaW.PrintLast

theorem FnExactConstants : laws_FnExactConstants.Pure := rfl

end Go.Proofs.Ytcjfmohmjhjpoaa.Pure
