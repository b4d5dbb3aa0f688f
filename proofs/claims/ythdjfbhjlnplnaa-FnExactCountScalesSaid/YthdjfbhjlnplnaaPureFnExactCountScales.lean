/- Proved: the plain statement of the law FnExactCountScales: the program's function and the reference's give the same answer. Conditions: none beyond the statement's own. -/
import Derived.Test.YthdjfbhjlnplnaaPFnExactCountScalesx1
namespace Go.Proofs.Ythdjfbhjlnplnaa.Pure
open Go.RowKit Go.Proofs.Ythdjfbhjlnplnaa.PFnExactCountScales Go.Proofs.YthdjfbhjlnplnaaW.PrintWords Go.Proofs.YthdjfbhjlnplnaaW.PrintLast
set_option linter.unusedVariables false
set_option linter.unusedSimpArgs false

theorem l00In_eq (a b c : Int) : spec_l00In.f a b c = some (decide (b ≤ a ∧ a ≤ c)) := by
  unfold spec_l00In.f
  by_cases h : a ≥ b <;> simp [h]

theorem within_eq (a b c : Int) : impl_within.f a b c = some (decide (b ≤ a ∧ a ≤ c)) := by
  unfold impl_within.f
  by_cases h : a ≥ b <;> simp [h]

theorem FnExactCountScales : laws_FnExactCountScales.Pure := by
  intro a _
  refine ⟨20, ?_⟩
  by_cases h : 5 ≤ a ∧ a ≤ 12
  · have e : a = 5 ∨ a = 6 ∨ a = 7 ∨ a = 8 ∨ a = 9 ∨ a = 10 ∨ a = 11 ∨ a = 12 := by omega
    rcases e with rfl | rfl | rfl | rfl | rfl | rfl | rfl | rfl <;> decide +kernel
  · unfold laws_FnExactCountScales.f spec_CountScales.f impl_CountScales.f spec_l03Size.f
    rw [l00In_eq, within_eq]
    simp [h]

end Go.Proofs.Ythdjfbhjlnplnaa.Pure
