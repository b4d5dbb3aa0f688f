-- Written by wip/myprint.py: the kit's print, with contracts of this session's own among the functions.
import Derived.Test.YtojmkelgbcnfmaaPFnExactPowerRatiox2
namespace Go.Proofs.Ytojmkelgbcnfmaa.PFnExactPowerRatio
open Go.RowKit Go.Proofs.YtojmkelgbcnfmaaW.PrintWords Go.Proofs.YtojmkelgbcnfmaaW.PrintLast
/-- THE ONE PURE STATEMENT of laws_FnExactPowerRatio. -/
def laws_FnExactPowerRatio.Pure : Prop := ∀ (a0_0 : Int) (a0_1 : Int) (a1 : Int), (Lit.int .i64 a0_0).wf = true → (Lit.int .i64 a0_1).wf = true → (Lit.int .i64 a1).wf = true → ∃ k, laws_FnExactPowerRatio.f k a0_0 a0_1 a1 = some true
end Go.Proofs.Ytojmkelgbcnfmaa.PFnExactPowerRatio
