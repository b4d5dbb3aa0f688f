-- Written by wip/myprint.py: the kit's print, with contracts of this session's own among the functions.
import Derived.Test.YtigjcobannhdlaaDoorPFnExactEqualErrorsx10
namespace Go.Proofs.YtigjcobannhdlaaDoor.PFnExactEqualErrors
open Go.RowKit Go.Proofs.YtigjcobannhdlaaDoorW.PrintWords Go.Proofs.YtigjcobannhdlaaDoorW.PrintLast
/-- THE ONE PURE STATEMENT of laws_FnExactEqualErrors. -/
def laws_FnExactEqualErrors.Pure : Prop := ∀ (a0_0 : ByteArray) (l0_1 : List (S68)), a0_0.size ≤ maxLen → l0_1.length ≤ maxLen → ∃ k, laws_FnExactEqualErrors.f k a0_0 l0_1 = some true
end Go.Proofs.YtigjcobannhdlaaDoor.PFnExactEqualErrors
