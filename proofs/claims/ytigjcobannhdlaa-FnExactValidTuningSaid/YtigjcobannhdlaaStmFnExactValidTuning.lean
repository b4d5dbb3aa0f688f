-- Written by wip/myprint.py: the kit's print, with contracts of this session's own among the functions.
import Derived.Test.YtigjcobannhdlaaPFnExactValidTuningx6
namespace Go.Proofs.Ytigjcobannhdlaa.PFnExactValidTuning
open Go.RowKit Go.Proofs.YtigjcobannhdlaaW.PrintWords Go.Proofs.YtigjcobannhdlaaW.PrintLast
/-- THE ONE PURE STATEMENT of laws_FnExactValidTuning. -/
def laws_FnExactValidTuning.Pure : Prop := ∀ (a0_0 : ByteArray) (l0_1 : List (S38)), a0_0.size ≤ maxLen → l0_1.length ≤ maxLen → ∃ k, laws_FnExactValidTuning.f k a0_0 l0_1 = some true
end Go.Proofs.Ytigjcobannhdlaa.PFnExactValidTuning
