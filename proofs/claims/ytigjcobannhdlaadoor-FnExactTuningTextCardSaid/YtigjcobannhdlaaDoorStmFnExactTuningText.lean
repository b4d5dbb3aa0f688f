-- Written by wip/myprint.py: the kit's print, with contracts of this session's own among the functions.
import Derived.Test.YtigjcobannhdlaaDoorPFnExactTuningTextx7
namespace Go.Proofs.YtigjcobannhdlaaDoor.PFnExactTuningText
open Go.RowKit Go.Proofs.YtigjcobannhdlaaDoorW.PrintWords Go.Proofs.YtigjcobannhdlaaDoorW.PrintLast
/-- THE ONE PURE STATEMENT of laws_FnExactTuningText. -/
def laws_FnExactTuningText.Pure : Prop := ∀ (a0_0 : ByteArray) (l0_1 : List (S68)), a0_0.size ≤ maxLen → l0_1.length ≤ maxLen → ∃ k, laws_FnExactTuningText.f k a0_0 l0_1 = some true
end Go.Proofs.YtigjcobannhdlaaDoor.PFnExactTuningText
