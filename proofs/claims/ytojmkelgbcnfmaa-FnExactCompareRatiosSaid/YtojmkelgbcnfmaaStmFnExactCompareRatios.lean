-- Written by wip/myprint.py: the kit's print, with contracts of this session's own among the functions.
import Derived.Test.YtojmkelgbcnfmaaPFnExactCompareRatiosx2
namespace Go.Proofs.Ytojmkelgbcnfmaa.PFnExactCompareRatios
open Go.RowKit Go.Proofs.YtojmkelgbcnfmaaW.PrintWords Go.Proofs.YtojmkelgbcnfmaaW.PrintLast
/-- THE ONE PURE STATEMENT of laws_FnExactCompareRatios. -/
def laws_FnExactCompareRatios.Pure : Prop := ∀ (a0_0 : Int) (a0_1 : Int) (a1_0 : Int) (a1_1 : Int), (Lit.int .i64 a0_0).wf = true → (Lit.int .i64 a0_1).wf = true → (Lit.int .i64 a1_0).wf = true → (Lit.int .i64 a1_1).wf = true → ∃ k, laws_FnExactCompareRatios.f k a0_0 a0_1 a1_0 a1_1 = some true
end Go.Proofs.Ytojmkelgbcnfmaa.PFnExactCompareRatios
