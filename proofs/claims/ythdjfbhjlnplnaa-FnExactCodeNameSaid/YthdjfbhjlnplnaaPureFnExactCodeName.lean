/- Proved: the plain statement of the law FnExactCodeName: the program's function and the reference's give the same answer. Conditions: none beyond the statement's own. -/
import Derived.Test.YthdjfbhjlnplnaaPFnExactCodeNamex1
namespace Go.Proofs.Ythdjfbhjlnplnaa.Pure
open Go.RowKit Go.Proofs.Ythdjfbhjlnplnaa.PFnExactCodeName Go.Proofs.YthdjfbhjlnplnaaW.PrintWords Go.Proofs.YthdjfbhjlnplnaaW.PrintLast
set_option linter.unusedVariables false
set_option linter.unusedSimpArgs false

theorem l00In_eq (a b c : Int) : spec_l00In.f a b c = some (decide (b ≤ a ∧ a ≤ c)) := by
  unfold spec_l00In.f
  by_cases h : a ≥ b <;> simp [h]

theorem within_eq (a b c : Int) : impl_within.f a b c = some (decide (b ≤ a ∧ a ≤ c)) := by
  unfold impl_within.f
  by_cases h : a ≥ b <;> simp [h]

theorem FnExactCodeName : laws_FnExactCodeName.Pure := by
  intro a _
  by_cases h : 0 ≤ a ∧ a ≤ 11
  · have e : a = 0 ∨ a = 1 ∨ a = 2 ∨ a = 3 ∨ a = 4 ∨ a = 5 ∨ a = 6 ∨ a = 7 ∨ a = 8 ∨ a = 9 ∨ a = 10 ∨ a = 11 := by omega
    rcases e with rfl | rfl | rfl | rfl | rfl | rfl | rfl | rfl | rfl | rfl | rfl | rfl <;> decide +kernel
  · have key : ∀ n : Int, n = 11 → decide (0 ≤ a ∧ a ≤ n) = false := by rintro n rfl; exact decide_eq_false h
    unfold laws_FnExactCodeName.f spec_CodeName.f impl_CodeName.f
    simp only [Option.bind_some]
    rw [l00In_eq, within_eq, key _ (by decide +kernel), key _ rfl]
    simp

end Go.Proofs.Ythdjfbhjlnplnaa.Pure
