/- Proved: the plain statement of the law FnExactToneNamed: the program's function and the reference's give the same answer. Conditions: none beyond the statement's own. -/
import Derived.Test.YtnmpkijibhidaaaPFnExactToneNamedx1
namespace Go.Proofs.Ytnmpkijibhidaaa.Pure
open Go.RowKit Go.Proofs.Ytnmpkijibhidaaa.PFnExactToneNamed Go.Proofs.YtnmpkijibhidaaaW.PrintWords Go.Proofs.YtnmpkijibhidaaaW.PrintLast
set_option linter.unusedVariables false
set_option linter.unusedSimpArgs false

theorem wr {n : Int} (h : -9223372036854775808 ≤ n ∧ n ≤ 9223372036854775807) : wrap64 n = n := by unfold wrap64; omega

theorem named_all : ∀ n, n < 256 → laws_FnExactToneNamed.f 20 ⟨#[UInt8.ofNat n]⟩ = some true := by decide +kernel
theorem FnExactToneNamed : laws_FnExactToneNamed.Pure := by
  intro a _
  refine ⟨20, ?_⟩
  by_cases h1 : a.size = 1
  · obtain ⟨d⟩ := a
    obtain ⟨c, rfl⟩ : ∃ c, d = #[c] := Array.size_eq_one_iff.mp h1
    have := named_all c.toNat c.toNat_lt
    rwa [UInt8.ofNat_toNat] at this
  · have h2 : ¬ (a.size : Int) = 1 := by omega
    have h3 : (⟨#[83, 114, 82, 103, 71, 109, 77, 80, 100, 68, 110, 78]⟩ : ByteArray).size < 4294967281 := by decide
    unfold laws_FnExactToneNamed.f spec_ToneNamed.f impl_ToneNamed.f strings_Index.f
    simp only [if_neg h2, if_pos h3, Option.bind_some]
    by_cases c : (a.size : Int) > 1048576
    · rw [if_pos c]
    · rw [if_neg c]; simp

end Go.Proofs.Ytnmpkijibhidaaa.Pure
