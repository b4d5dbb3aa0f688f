-- Written by wip/myprint.py: the kit's print, with contracts of this session's own among the functions.
import Derived.Test.YtglamjckdodeoaaPFnExactTonesOfx6
namespace Go.Proofs.Ytglamjckdodeoaa.PFnExactTonesOf
open Go.RowKit Go.Proofs.YtglamjckdodeoaaW.PrintWords Go.Proofs.YtglamjckdodeoaaW.PrintLast
/-- THE ONE PURE STATEMENT of laws_FnExactTonesOf. -/
def laws_FnExactTonesOf.Pure : Prop := ∀ (a0_0 : ByteArray) (l0_1 : List (Int)) (l0_2 : List (Int)) (a0_3 : Int) (a0_4 : Int) (l0_5 : List (List Int)), a0_0.size ≤ maxLen → l0_1.length ≤ maxLen → l0_2.length ≤ maxLen → (Lit.int .i64 a0_3).wf = true → (Lit.int .i64 a0_4).wf = true → l0_5.length ≤ maxLen → (∀ p ∈ l0_5, p.length ≤ maxLen) → ∃ k, laws_FnExactTonesOf.f k a0_0 l0_1 l0_2 a0_3 a0_4 l0_5 = some true
end Go.Proofs.Ytglamjckdodeoaa.PFnExactTonesOf
