/- Proved: the plain statement of the law FnExactJustTuning: the program's function and the reference's give the same answer. Conditions: none beyond the statement's own. -/
import Derived.Test.YtigjcobannhdlaaPFnExactJustTuningx2
namespace Go.Proofs.Ytigjcobannhdlaa.Pure
open Go.RowKit Go.Proofs.Ytigjcobannhdlaa.PFnExactJustTuning Go.Proofs.YtigjcobannhdlaaW.PrintWords Go.Proofs.YtigjcobannhdlaaW.PrintLast
set_option linter.unusedVariables false
set_option linter.unusedSimpArgs false

theorem FnExactJustTuning : laws_FnExactJustTuning.Pure := ⟨60, by decide +kernel⟩

end Go.Proofs.Ytigjcobannhdlaa.Pure
