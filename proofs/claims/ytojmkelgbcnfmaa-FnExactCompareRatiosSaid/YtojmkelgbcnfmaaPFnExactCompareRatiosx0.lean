-- Written by wip/myprint.py: the kit's print, with contracts of this session's own among the functions.
import Derived.Test.YtojmkelgbcnfmaaProg
import Derived.Below
import Derived.Deep.Draws
import Derived.Deep.AppendLies
import Derived.Maps.AppendAt
import Derived.OwnWalk
import Derived.Laws.BytesArg
import Derived.Laws.MakeOwn
import Derived.Laws.OwnMore
import Derived.Deep.OwnRows
import Derived.Tactics
import Derived.Lib.ConvBytes
import Derived.Laws.Slices
import Derived.WalkKit
import Derived.KernelRfl
import Derived.RowKit3
import Derived.Deep.LoopGhost
import Derived.Deep.QuietTactic
import Derived.BigQuiet
import Derived.WideLaws
import Derived.Deep.DeepCutAuto
import Derived.Deep.CutBlock
import Derived.Deep.RegionHeld3
import Derived.Laws.Rows
import Derived.Lib.AppendStr
import Derived.ArgAppend
import Derived.Laws.IdiomCopy
import Derived.OrdersHeld
import Derived.Laws.BitsLemmas
import Derived.RowKit
import Derived.Test.YtojmkelgbcnfmaaWWords
import Derived.Test.YtojmkelgbcnfmaaWLast
import Derived.Test.YtojmkelgbcnfmaaWTab
import Derived.Test.YtojmkelgbcnfmaaWFour
import Derived.Test.YtojmkelgbcnfmaaWQPut
import Derived.Test.YtojmkelgbcnfmaaWApart
import Derived.Test.YtojmkelgbcnfmaaWArr
import Derived.Test.YtojmkelgbcnfmaaWZeros
import Derived.Test.YtojmkelgbcnfmaaWFoot
import Derived.Test.YtojmkelgbcnfmaaWKept
import Derived.Test.YtojmkelgbcnfmaaWShare
import Derived.Test.YtojmkelgbcnfmaaWN
import Derived.Test.YtojmkelgbcnfmaaWFootNe
import Derived.Test.YtojmkelgbcnfmaaWAt
import Derived.Test.YtojmkelgbcnfmaaWEqStruct
import Derived.Test.YtojmkelgbcnfmaaWRepsOne
import Derived.Test.YtojmkelgbcnfmaaWInv
import Derived.Test.YtojmkelgbcnfmaaWInvWords
import Derived.Test.YtojmkelgbcnfmaaWGuard
import Derived.Test.YtojmkelgbcnfmaaWNEv
import Derived.Test.YtojmkelgbcnfmaaWMore
namespace Go.Proofs.Ytojmkelgbcnfmaa.PFnExactCompareRatios
open Go.RowKit Go.Proofs.YtojmkelgbcnfmaaW.PrintWords Go.Proofs.YtojmkelgbcnfmaaW.PrintLast Go.Proofs.YtojmkelgbcnfmaaW.PrintMore
attribute [local go_sem] max2_int min2_int max_two min_two max_three min_three max_four min_four   -- for this text's walks alone
set_option linter.unusedVariables false
set_option linter.unusedSimpArgs false



def errW : Option Int → Value
  | none => .nilIface
  | some c => .iface 0 (.int .i64 c)
theorem errW_none : errW none = .nilIface := rfl
theorem errW_some (c : Int) : errW (some c) = .iface 0 (.int .i64 c) := rfl

-- the values' own types

end Go.Proofs.Ytojmkelgbcnfmaa.PFnExactCompareRatios
