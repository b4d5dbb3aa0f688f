-- Written by wip/myprint.py: the kit's print, with contracts of this session's own among the functions.
import Derived.Test.YtojmkelgbcnfmaaPFnExactOctaveOfx2
namespace Go.Proofs.Ytojmkelgbcnfmaa.PFnExactOctaveOf
open Go.RowKit Go.Proofs.YtojmkelgbcnfmaaW.PrintWords Go.Proofs.YtojmkelgbcnfmaaW.PrintLast
/-- THE ONE PURE STATEMENT of laws_FnExactOctaveOf. -/
def laws_FnExactOctaveOf.Pure : Prop := ∀ (a0_0 : Int) (a0_1 : Int), (Lit.int .i64 a0_0).wf = true → (Lit.int .i64 a0_1).wf = true → ∃ k, laws_FnExactOctaveOf.f k a0_0 a0_1 = some true
end Go.Proofs.Ytojmkelgbcnfmaa.PFnExactOctaveOf
