/- Proved: the plain statement of the law FnExactToneOf: the program's function and the reference's give the same answer. Conditions: none beyond the statement's own. -/
import Derived.Test.YthdjfbhjlnplnaaPFnExactToneOfx1
namespace Go.Proofs.Ythdjfbhjlnplnaa.Pure
open Go.RowKit Go.Proofs.Ythdjfbhjlnplnaa.PFnExactToneOf Go.Proofs.YthdjfbhjlnplnaaW.PrintWords Go.Proofs.YthdjfbhjlnplnaaW.PrintLast
set_option linter.unusedVariables false
set_option linter.unusedSimpArgs false

theorem FnExactToneOf : laws_FnExactToneOf.Pure := by
  intro a _
  unfold laws_FnExactToneOf.f spec_ToneOf.f spec_l03Tone.f impl_ToneOf.f
  simp

end Go.Proofs.Ythdjfbhjlnplnaa.Pure
