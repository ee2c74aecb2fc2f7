-- PRINTED BY print.sh 35421559b90ae4d0a3588c463048766b98c2df88dd9212a6774a882060cdf62d: not written by this session
import Derived.Test.YtcjfmohmjhjpoaaProg
import Derived.Below
import Derived.Deep.Draws
import Derived.Deep.AppendLies
import Derived.Maps.AppendAt
import Derived.OwnWalk
import Derived.Laws.BytesArg
import Derived.Laws.MakeOwn
import Derived.Laws.OwnMore
import Derived.Deep.OwnRows
import Derived.Tactics
import Derived.Lib.ConvBytes
import Derived.Laws.Slices
import Derived.WalkKit
import Derived.KernelRfl
import Derived.RowKit3
import Derived.Deep.LoopGhost
import Derived.Deep.QuietTactic
import Derived.BigQuiet
import Derived.WideLaws
import Derived.Deep.DeepCutAuto
import Derived.Deep.CutBlock
import Derived.Deep.RegionHeld3
import Derived.Laws.Rows
import Derived.Lib.AppendStr
import Derived.ArgAppend
import Derived.Laws.IdiomCopy
import Derived.OrdersHeld
import Derived.Laws.BitsLemmas
import Derived.RowKit
import Derived.Test.YtcjfmohmjhjpoaaWWords
import Derived.Test.YtcjfmohmjhjpoaaWLast
import Derived.Test.YtcjfmohmjhjpoaaWTab
import Derived.Test.YtcjfmohmjhjpoaaWFour
import Derived.Test.YtcjfmohmjhjpoaaWQPut
import Derived.Test.YtcjfmohmjhjpoaaWApart
import Derived.Test.YtcjfmohmjhjpoaaWArr
import Derived.Test.YtcjfmohmjhjpoaaWZeros
import Derived.Test.YtcjfmohmjhjpoaaWFoot
import Derived.Test.YtcjfmohmjhjpoaaWKept
import Derived.Test.YtcjfmohmjhjpoaaWShare
import Derived.Test.YtcjfmohmjhjpoaaWN
import Derived.Test.YtcjfmohmjhjpoaaWFootNe
import Derived.Test.YtcjfmohmjhjpoaaWAt
import Derived.Test.YtcjfmohmjhjpoaaWEqStruct
import Derived.Test.YtcjfmohmjhjpoaaWRepsOne
import Derived.Test.YtcjfmohmjhjpoaaWInv
import Derived.Test.YtcjfmohmjhjpoaaWInvWords
import Derived.Test.YtcjfmohmjhjpoaaWGuard
import Derived.Test.YtcjfmohmjhjpoaaWNEv
import Derived.Test.YtcjfmohmjhjpoaaWMore
namespace Go.Proofs.Ytcjfmohmjhjpoaa.PFnExactConstants
open Go.RowKit Go.Proofs.YtcjfmohmjhjpoaaW.PrintWords Go.Proofs.YtcjfmohmjhjpoaaW.PrintLast Go.Proofs.YtcjfmohmjhjpoaaW.PrintMore
attribute [local go_sem] max2_int min2_int max_two min_two max_three min_three max_four min_four   -- for this text's walks alone
set_option linter.unusedVariables false
set_option linter.unusedSimpArgs false



def errW : Option Int → Value
  | none => .nilIface
  | some c => .iface 0 (.int .i64 c)
theorem errW_none : errW none = .nilIface := rfl
theorem errW_some (c : Int) : errW (some c) = .iface 0 (.int .i64 c) := rfl

-- the values' own types

end Go.Proofs.Ytcjfmohmjhjpoaa.PFnExactConstants
