-- Written by wip/myprint.py: the kit's print, with contracts of this session's own among the functions.
import Derived.Test.YtojmkelgbcnfmaaDoorProg
import Derived.Below
import Derived.Deep.Draws
import Derived.Deep.AppendLies
import Derived.Maps.AppendAt
import Derived.OwnWalk
import Derived.Laws.BytesArg
import Derived.Laws.MakeOwn
import Derived.Laws.OwnMore
import Derived.Deep.OwnRows
import Derived.Tactics
import Derived.Lib.ConvBytes
import Derived.Laws.Slices
import Derived.WalkKit
import Derived.KernelRfl
import Derived.RowKit3
import Derived.Deep.LoopGhost
import Derived.Deep.QuietTactic
import Derived.BigQuiet
import Derived.WideLaws
import Derived.Deep.DeepCutAuto
import Derived.Deep.CutBlock
import Derived.Deep.RegionHeld3
import Derived.Laws.Rows
import Derived.Lib.AppendStr
import Derived.ArgAppend
import Derived.Laws.IdiomCopy
import Derived.OrdersHeld
import Derived.Laws.BitsLemmas
import Derived.RowKit
import Derived.Lib.LaidTab
import Derived.Lib.SmallJoins
import Derived.Test.YtojmkelgbcnfmaaDoorWWords
import Derived.Test.YtojmkelgbcnfmaaDoorWLast
import Derived.Test.YtojmkelgbcnfmaaDoorWTab
import Derived.Test.YtojmkelgbcnfmaaDoorWFour
import Derived.Test.YtojmkelgbcnfmaaDoorWQPut
import Derived.Test.YtojmkelgbcnfmaaDoorWApart
import Derived.Test.YtojmkelgbcnfmaaDoorWArr
import Derived.Test.YtojmkelgbcnfmaaDoorWZeros
import Derived.Test.YtojmkelgbcnfmaaDoorWFoot
import Derived.Test.YtojmkelgbcnfmaaDoorWKept
import Derived.Test.YtojmkelgbcnfmaaDoorWShare
import Derived.Test.YtojmkelgbcnfmaaDoorWN
import Derived.Test.YtojmkelgbcnfmaaDoorWFootNe
import Derived.Test.YtojmkelgbcnfmaaDoorWAt
import Derived.Test.YtojmkelgbcnfmaaDoorWEqStruct
import Derived.Test.YtojmkelgbcnfmaaDoorWRepsOne
import Derived.Test.YtojmkelgbcnfmaaDoorWInv
import Derived.Test.YtojmkelgbcnfmaaDoorWInvWords
import Derived.Test.YtojmkelgbcnfmaaDoorWGuard
import Derived.Test.YtojmkelgbcnfmaaDoorWNEv
import Derived.Test.YtojmkelgbcnfmaaDoorWMore
namespace Go.Proofs.YtojmkelgbcnfmaaDoor.PFnExactBestRatio
open Go.RowKit Go.Proofs.YtojmkelgbcnfmaaDoorW.PrintWords Go.Proofs.YtojmkelgbcnfmaaDoorW.PrintLast Go.Proofs.YtojmkelgbcnfmaaDoorW.PrintMore
attribute [local go_sem] max2_int min2_int max_two min_two max_three min_three max_four min_four   -- for this text's walks alone
set_option linter.unusedVariables false
set_option linter.unusedSimpArgs false



def errW : Option Int → Value
  | none => .nilIface
  | some c => .iface 0 (.int .i64 c)
theorem errW_none : errW none = .nilIface := rfl
theorem errW_some (c : Int) : errW (some c) = .iface 0 (.int .i64 c) := rfl

theorem info2 : (Tryd.prog.info? 2).map (fun i => (i.zero, i.size, i.bytes)) = some (some (.int .i64 0), 1, 8) := by kernel_rfl
-- the values' own types

end Go.Proofs.YtojmkelgbcnfmaaDoor.PFnExactBestRatio
