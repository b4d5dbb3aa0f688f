-- Written by wip/myprint.py: the kit's print, with contracts of this session's own among the functions.
import Derived.Test.YtfpjcjignplpkaaDoorPFnExactRatioTextx2
namespace Go.Proofs.YtfpjcjignplpkaaDoor.PFnExactRatioText
open Go.RowKit Go.Proofs.YtfpjcjignplpkaaDoorW.PrintWords Go.Proofs.YtfpjcjignplpkaaDoorW.PrintLast
/-- THE ONE PURE STATEMENT of laws_FnExactRatioText. -/
def laws_FnExactRatioText.Pure : Prop := ∀ (a0_0 : Int) (a0_1 : Int), (Lit.int .i64 a0_0).wf = true → (Lit.int .i64 a0_1).wf = true → ∃ k, laws_FnExactRatioText.f k a0_0 a0_1 = some true
end Go.Proofs.YtfpjcjignplpkaaDoor.PFnExactRatioText
