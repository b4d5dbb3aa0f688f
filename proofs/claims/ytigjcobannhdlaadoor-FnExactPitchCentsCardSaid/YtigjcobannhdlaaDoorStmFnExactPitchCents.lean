-- Written by wip/myprint.py: the kit's print, with contracts of this session's own among the functions.
import Derived.Test.YtigjcobannhdlaaDoorPFnExactPitchCentsx9
namespace Go.Proofs.YtigjcobannhdlaaDoor.PFnExactPitchCents
open Go.RowKit Go.Proofs.YtigjcobannhdlaaDoorW.PrintWords Go.Proofs.YtigjcobannhdlaaDoorW.PrintLast
/-- THE ONE PURE STATEMENT of laws_FnExactPitchCents. -/
def laws_FnExactPitchCents.Pure : Prop := ∀ (a0_0 : ByteArray) (l0_1 : List (S68)) (a1 : Int), a0_0.size ≤ maxLen → l0_1.length ≤ maxLen → (Lit.int .i64 a1).wf = true → ∃ k, laws_FnExactPitchCents.f k a0_0 l0_1 a1 = some true
end Go.Proofs.YtigjcobannhdlaaDoor.PFnExactPitchCents
