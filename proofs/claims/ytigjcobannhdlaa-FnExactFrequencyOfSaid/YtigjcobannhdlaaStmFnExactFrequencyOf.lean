-- Written by wip/myprint.py: the kit's print, with contracts of this session's own among the functions.
import Derived.Test.YtigjcobannhdlaaPFnExactFrequencyOfx9
namespace Go.Proofs.Ytigjcobannhdlaa.PFnExactFrequencyOf
open Go.RowKit Go.Proofs.YtigjcobannhdlaaW.PrintWords Go.Proofs.YtigjcobannhdlaaW.PrintLast
/-- THE ONE PURE STATEMENT of laws_FnExactFrequencyOf. -/
def laws_FnExactFrequencyOf.Pure : Prop := ∀ (a0_0 : ByteArray) (l0_1 : List (S38)) (a1 : Int) (a2 : Int), a0_0.size ≤ maxLen → l0_1.length ≤ maxLen → (Lit.int .i64 a1).wf = true → (Lit.int .i64 a2).wf = true → ∃ k, laws_FnExactFrequencyOf.f k a0_0 l0_1 a1 a2 = some true
end Go.Proofs.Ytigjcobannhdlaa.PFnExactFrequencyOf
