-- Written by wip/myprint.py: the kit's print, with contracts of this session's own among the functions.
import Derived.Test.YtfpjcjignplpkaaDoorProg
import Derived.Below
import Derived.Deep.Draws
import Derived.Deep.AppendLies
import Derived.Maps.AppendAt
import Derived.OwnWalk
import Derived.Laws.BytesArg
import Derived.Laws.MakeOwn
import Derived.Laws.OwnMore
import Derived.Deep.OwnRows
import Derived.Tactics
import Derived.Lib.ConvBytes
import Derived.Laws.Slices
import Derived.WalkKit
import Derived.KernelRfl
import Derived.RowKit3
import Derived.Deep.LoopGhost
import Derived.Deep.QuietTactic
import Derived.BigQuiet
import Derived.WideLaws
import Derived.Deep.DeepCutAuto
import Derived.Deep.CutBlock
import Derived.Deep.RegionHeld3
import Derived.Laws.Rows
import Derived.Lib.AppendStr
import Derived.ArgAppend
import Derived.Laws.IdiomCopy
import Derived.OrdersHeld
import Derived.Laws.BitsLemmas
import Derived.RowKit
import Derived.Shelf.Strconv.Itoa4
import Derived.Lib.SmallJoins
import Derived.Shelf.Strings.OnBuilder
import Derived.Shelf.Strconv.ErrVarParseInt
import Derived.Shelf.Strings.Split
import Derived.Test.YtfpjcjignplpkaaDoorWWords
import Derived.Test.YtfpjcjignplpkaaDoorWLast
import Derived.Test.YtfpjcjignplpkaaDoorWTab
import Derived.Test.YtfpjcjignplpkaaDoorWFour
import Derived.Test.YtfpjcjignplpkaaDoorWQPut
import Derived.Test.YtfpjcjignplpkaaDoorWApart
import Derived.Test.YtfpjcjignplpkaaDoorWArr
import Derived.Test.YtfpjcjignplpkaaDoorWZeros
import Derived.Test.YtfpjcjignplpkaaDoorWFoot
import Derived.Test.YtfpjcjignplpkaaDoorWKept
import Derived.Test.YtfpjcjignplpkaaDoorWShare
import Derived.Test.YtfpjcjignplpkaaDoorWN
import Derived.Test.YtfpjcjignplpkaaDoorWFootNe
import Derived.Test.YtfpjcjignplpkaaDoorWAt
import Derived.Test.YtfpjcjignplpkaaDoorWEqStruct
import Derived.Test.YtfpjcjignplpkaaDoorWRepsOne
import Derived.Test.YtfpjcjignplpkaaDoorWInv
import Derived.Test.YtfpjcjignplpkaaDoorWInvWords
import Derived.Test.YtfpjcjignplpkaaDoorWGuard
import Derived.Test.YtfpjcjignplpkaaDoorWNEv
import Derived.Test.YtfpjcjignplpkaaDoorWMore
namespace Go.Proofs.YtfpjcjignplpkaaDoor.PFnExactReadList
open Go.RowKit Go.Proofs.YtfpjcjignplpkaaDoorW.PrintWords Go.Proofs.YtfpjcjignplpkaaDoorW.PrintLast Go.Proofs.YtfpjcjignplpkaaDoorW.PrintMore
attribute [local go_sem] max2_int min2_int max_two min_two max_three min_three max_four min_four   -- for this text's walks alone
set_option linter.unusedVariables false
set_option linter.unusedSimpArgs false



def errW : Option Int → Value
  | none => .nilIface
  | some c => .iface 0 (.int .i64 c)
theorem errW_none : errW none = .nilIface := rfl
theorem errW_some (c : Int) : errW (some c) = .iface 0 (.int .i64 c) := rfl

theorem info2 : (Tryd.prog.info? 2).map (fun i => (i.zero, i.size, i.bytes)) = some (some (.int .i64 0), 1, 8) := by kernel_rfl
theorem info9 : (Tryd.prog.info? 9).map (fun i => (i.zero, i.size, i.bytes)) = some (some (.string ⟨#[]⟩), 1, 16) := by kernel_rfl
-- the values' own types

end Go.Proofs.YtfpjcjignplpkaaDoor.PFnExactReadList
