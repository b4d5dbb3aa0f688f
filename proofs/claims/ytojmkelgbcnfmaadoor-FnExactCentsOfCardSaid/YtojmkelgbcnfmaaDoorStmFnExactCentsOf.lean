-- Written by wip/myprint.py: the kit's print, with contracts of this session's own among the functions.
import Derived.Test.YtojmkelgbcnfmaaDoorPFnExactCentsOfx3
namespace Go.Proofs.YtojmkelgbcnfmaaDoor.PFnExactCentsOf
open Go.RowKit Go.Proofs.YtojmkelgbcnfmaaDoorW.PrintWords Go.Proofs.YtojmkelgbcnfmaaDoorW.PrintLast
/-- THE ONE PURE STATEMENT of laws_FnExactCentsOf. -/
def laws_FnExactCentsOf.Pure : Prop := ∀ (a0_0 : Int) (a0_1 : Int), (Lit.int .i64 a0_0).wf = true → (Lit.int .i64 a0_1).wf = true → ∃ k, laws_FnExactCentsOf.f k a0_0 a0_1 = some true
end Go.Proofs.YtojmkelgbcnfmaaDoor.PFnExactCentsOf
