-- Written by wip/myprint.py: the kit's print, with contracts of this session's own among the functions.
import Derived.Test.YtnmpkijibhidaaaProg
import Derived.Below
import Derived.Deep.Draws
import Derived.Deep.AppendLies
import Derived.Maps.AppendAt
import Derived.OwnWalk
import Derived.Laws.BytesArg
import Derived.Laws.MakeOwn
import Derived.Laws.OwnMore
import Derived.Deep.OwnRows
import Derived.Tactics
import Derived.Lib.ConvBytes
import Derived.Laws.Slices
import Derived.WalkKit
import Derived.KernelRfl
import Derived.RowKit3
import Derived.Deep.LoopGhost
import Derived.Deep.QuietTactic
import Derived.BigQuiet
import Derived.WideLaws
import Derived.Deep.DeepCutAuto
import Derived.Deep.CutBlock
import Derived.Deep.RegionHeld3
import Derived.Laws.Rows
import Derived.Lib.AppendStr
import Derived.ArgAppend
import Derived.Laws.IdiomCopy
import Derived.OrdersHeld
import Derived.Laws.BitsLemmas
import Derived.RowKit
import Derived.Shelf.SlicesE.DeleteFunc
import Derived.Lib.SliceRun
import Derived.Test.YtnmpkijibhidaaaWWords
import Derived.Test.YtnmpkijibhidaaaWLast
import Derived.Test.YtnmpkijibhidaaaWTab
import Derived.Test.YtnmpkijibhidaaaWFour
import Derived.Test.YtnmpkijibhidaaaWQPut
import Derived.Test.YtnmpkijibhidaaaWApart
import Derived.Test.YtnmpkijibhidaaaWArr
import Derived.Test.YtnmpkijibhidaaaWZeros
import Derived.Test.YtnmpkijibhidaaaWFoot
import Derived.Test.YtnmpkijibhidaaaWKept
import Derived.Test.YtnmpkijibhidaaaWShare
import Derived.Test.YtnmpkijibhidaaaWN
import Derived.Test.YtnmpkijibhidaaaWFootNe
import Derived.Test.YtnmpkijibhidaaaWAt
import Derived.Test.YtnmpkijibhidaaaWEqStruct
import Derived.Test.YtnmpkijibhidaaaWRepsOne
import Derived.Test.YtnmpkijibhidaaaWInv
import Derived.Test.YtnmpkijibhidaaaWInvWords
import Derived.Test.YtnmpkijibhidaaaWGuard
import Derived.Test.YtnmpkijibhidaaaWNEv
import Derived.Test.YtnmpkijibhidaaaWMore
namespace Go.Proofs.Ytnmpkijibhidaaa.PFnExactCommonTones
open Go.RowKit Go.Proofs.YtnmpkijibhidaaaW.PrintWords Go.Proofs.YtnmpkijibhidaaaW.PrintLast Go.Proofs.YtnmpkijibhidaaaW.PrintMore
attribute [local go_sem] max2_int min2_int max_two min_two max_three min_three max_four min_four   -- for this text's walks alone
set_option linter.unusedVariables false
set_option linter.unusedSimpArgs false



def errW : Option Int → Value
  | none => .nilIface
  | some c => .iface 0 (.int .i64 c)
theorem errW_none : errW none = .nilIface := rfl
theorem errW_some (c : Int) : errW (some c) = .iface 0 (.int .i64 c) := rfl

theorem info2 : (Try.prog.info? 2).map (fun i => (i.zero, i.size, i.bytes)) = some (some (.int .i64 0), 1, 8) := by kernel_rfl
-- the values' own types

end Go.Proofs.Ytnmpkijibhidaaa.PFnExactCommonTones
