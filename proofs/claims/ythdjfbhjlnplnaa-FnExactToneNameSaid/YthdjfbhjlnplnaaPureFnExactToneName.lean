/- Proved: the plain statement of the law FnExactToneName: the program's function and the reference's give the same answer. Conditions: none beyond the statement's own. -/
import Derived.Test.YthdjfbhjlnplnaaPFnExactToneNamex1
namespace Go.Proofs.Ythdjfbhjlnplnaa.Pure
open Go.RowKit Go.Proofs.Ythdjfbhjlnplnaa.PFnExactToneName Go.Proofs.YthdjfbhjlnplnaaW.PrintWords Go.Proofs.YthdjfbhjlnplnaaW.PrintLast
set_option linter.unusedVariables false
set_option linter.unusedSimpArgs false

theorem l00In_eq (a b c : Int) : spec_l00In.f a b c = some (decide (b ≤ a ∧ a ≤ c)) := by
  unfold spec_l00In.f
  by_cases h : a ≥ b <;> simp [h]

theorem within_eq (a b c : Int) : impl_within.f a b c = some (decide (b ≤ a ∧ a ≤ c)) := by
  unfold impl_within.f
  by_cases h : a ≥ b <;> simp [h]

theorem FnExactToneName : laws_FnExactToneName.Pure := by
  intro a _
  unfold laws_FnExactToneName.f spec_ToneName.f spec_l03Names.f impl_ToneName.f impl_toneOk.f
  rw [l00In_eq, within_eq]
  by_cases h : 0 ≤ a ∧ a ≤ 11
  · have h1 : wrap64 (a + 1) = a + 1 := by unfold wrap64; omega
    simp only [decide_eq_true h, Option.bind_some, if_true, h1]
    have e : ((⟨#[83, 114, 82, 103, 71, 109, 77, 80, 100, 68, 110, 78]⟩ : ByteArray).size : Int) = 12 := by rfl
    rw [e, if_pos h.1, if_pos (by omega), if_pos (by omega)]
    simp
  · simp [h]

end Go.Proofs.Ythdjfbhjlnplnaa.Pure
