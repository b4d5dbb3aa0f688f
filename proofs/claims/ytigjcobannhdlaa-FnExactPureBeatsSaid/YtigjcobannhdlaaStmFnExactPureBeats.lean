-- Written by wip/myprint.py: the kit's print, with contracts of this session's own among the functions.
import Derived.Test.YtigjcobannhdlaaPFnExactPureBeatsx10
namespace Go.Proofs.Ytigjcobannhdlaa.PFnExactPureBeats
open Go.RowKit Go.Proofs.YtigjcobannhdlaaW.PrintWords Go.Proofs.YtigjcobannhdlaaW.PrintLast
/-- THE ONE PURE STATEMENT of laws_FnExactPureBeats. -/
def laws_FnExactPureBeats.Pure : Prop := ∀ (a0_0 : ByteArray) (l0_1 : List (S38)) (a1 : Int) (a2 : Int) (a3 : Int), a0_0.size ≤ maxLen → l0_1.length ≤ maxLen → (Lit.int .i64 a1).wf = true → (Lit.int .i64 a2).wf = true → (Lit.int .i64 a3).wf = true → ∃ k, laws_FnExactPureBeats.f k a0_0 l0_1 a1 a2 a3 = some true
end Go.Proofs.Ytigjcobannhdlaa.PFnExactPureBeats
