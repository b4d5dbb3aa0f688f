-- Written by wip/myprint.py: the kit's print, with contracts of this session's own among the functions.
import Derived.Test.YtigjcobannhdlaaPFnExactTuneTonex8
namespace Go.Proofs.Ytigjcobannhdlaa.PFnExactTuneTone
open Go.RowKit Go.Proofs.YtigjcobannhdlaaW.PrintWords Go.Proofs.YtigjcobannhdlaaW.PrintLast
/-- THE ONE PURE STATEMENT of laws_FnExactTuneTone. -/
def laws_FnExactTuneTone.Pure : Prop := ∀ (a0_0 : ByteArray) (l0_1 : List (S38)) (a1 : Int) (a2_0 : Int) (a2_1 : Int), a0_0.size ≤ maxLen → l0_1.length ≤ maxLen → (Lit.int .i64 a1).wf = true → (Lit.int .i64 a2_0).wf = true → (Lit.int .i64 a2_1).wf = true → ∃ k, laws_FnExactTuneTone.f k a0_0 l0_1 a1 a2_0 a2_1 = some true
end Go.Proofs.Ytigjcobannhdlaa.PFnExactTuneTone
