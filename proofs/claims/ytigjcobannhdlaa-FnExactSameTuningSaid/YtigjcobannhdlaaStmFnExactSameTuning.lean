-- Written by wip/myprint.py: the kit's print, with contracts of this session's own among the functions.
import Derived.Test.YtigjcobannhdlaaPFnExactSameTuningx4
namespace Go.Proofs.Ytigjcobannhdlaa.PFnExactSameTuning
open Go.RowKit Go.Proofs.YtigjcobannhdlaaW.PrintWords Go.Proofs.YtigjcobannhdlaaW.PrintLast
/-- THE ONE PURE STATEMENT of laws_FnExactSameTuning. -/
def laws_FnExactSameTuning.Pure : Prop := ∀ (a0_0 : ByteArray) (l0_1 : List (S38)) (a1_0 : ByteArray) (l1_1 : List (S38)), a0_0.size ≤ maxLen → l0_1.length ≤ maxLen → a1_0.size ≤ maxLen → l1_1.length ≤ maxLen → ∃ k, laws_FnExactSameTuning.f k a0_0 l0_1 a1_0 l1_1 = some true
end Go.Proofs.Ytigjcobannhdlaa.PFnExactSameTuning
