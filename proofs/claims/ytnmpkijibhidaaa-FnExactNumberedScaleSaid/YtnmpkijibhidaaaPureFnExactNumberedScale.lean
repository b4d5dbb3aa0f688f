/- Proved: the plain statement of the law FnExactNumberedScale: the program's function and the reference's give the same answer. Conditions: none beyond the statement's own. -/
import Derived.Test.YtnmpkijibhidaaaPFnExactNumberedScalex2
namespace Go.Proofs.Ytnmpkijibhidaaa.Pure
open Go.RowKit Go.Proofs.Ytnmpkijibhidaaa.PFnExactNumberedScale Go.Proofs.YtnmpkijibhidaaaW.PrintWords Go.Proofs.YtnmpkijibhidaaaW.PrintLast
set_option linter.unusedVariables false
set_option linter.unusedSimpArgs false

theorem wr {n : Int} (h : -9223372036854775808 ≤ n ∧ n ≤ 9223372036854775807) : wrap64 n = n := by unfold wrap64; omega

theorem l00In_eq (a b c : Int) : spec_l00In.f a b c = some (decide (b ≤ a ∧ a ≤ c)) := by
  unfold spec_l00In.f
  by_cases h : a ≥ b <;> simp [h]

theorem within_eq (a b c : Int) : impl_within.f a b c = some (decide (b ≤ a ∧ a ≤ c)) := by
  unfold impl_within.f
  by_cases h : a ≥ b <;> simp [h]

theorem all_5_0 : ∀ (m : Fin 66), laws_FnExactNumberedScale.f 40 5 ((m.val : Int) + 0) = some true := by decide +kernel
theorem all_5_1 : ∀ (m : Fin 66), laws_FnExactNumberedScale.f 40 5 ((m.val : Int) + 66) = some true := by decide +kernel
theorem all_5_2 : ∀ (m : Fin 66), laws_FnExactNumberedScale.f 40 5 ((m.val : Int) + 132) = some true := by decide +kernel
theorem all_5_3 : ∀ (m : Fin 66), laws_FnExactNumberedScale.f 40 5 ((m.val : Int) + 198) = some true := by decide +kernel
theorem all_5_4 : ∀ (m : Fin 66), laws_FnExactNumberedScale.f 40 5 ((m.val : Int) + 264) = some true := by decide +kernel
theorem all_5_5 : ∀ (m : Fin 66), laws_FnExactNumberedScale.f 40 5 ((m.val : Int) + 330) = some true := by decide +kernel
theorem all_5_6 : ∀ (m : Fin 66), laws_FnExactNumberedScale.f 40 5 ((m.val : Int) + 396) = some true := by decide +kernel
theorem all_6_0 : ∀ (m : Fin 66), laws_FnExactNumberedScale.f 40 6 ((m.val : Int) + 0) = some true := by decide +kernel
theorem all_6_1 : ∀ (m : Fin 66), laws_FnExactNumberedScale.f 40 6 ((m.val : Int) + 66) = some true := by decide +kernel
theorem all_6_2 : ∀ (m : Fin 66), laws_FnExactNumberedScale.f 40 6 ((m.val : Int) + 132) = some true := by decide +kernel
theorem all_6_3 : ∀ (m : Fin 66), laws_FnExactNumberedScale.f 40 6 ((m.val : Int) + 198) = some true := by decide +kernel
theorem all_6_4 : ∀ (m : Fin 66), laws_FnExactNumberedScale.f 40 6 ((m.val : Int) + 264) = some true := by decide +kernel
theorem all_6_5 : ∀ (m : Fin 66), laws_FnExactNumberedScale.f 40 6 ((m.val : Int) + 330) = some true := by decide +kernel
theorem all_6_6 : ∀ (m : Fin 66), laws_FnExactNumberedScale.f 40 6 ((m.val : Int) + 396) = some true := by decide +kernel
theorem all_7_0 : ∀ (m : Fin 66), laws_FnExactNumberedScale.f 40 7 ((m.val : Int) + 0) = some true := by decide +kernel
theorem all_7_1 : ∀ (m : Fin 66), laws_FnExactNumberedScale.f 40 7 ((m.val : Int) + 66) = some true := by decide +kernel
theorem all_7_2 : ∀ (m : Fin 66), laws_FnExactNumberedScale.f 40 7 ((m.val : Int) + 132) = some true := by decide +kernel
theorem all_7_3 : ∀ (m : Fin 66), laws_FnExactNumberedScale.f 40 7 ((m.val : Int) + 198) = some true := by decide +kernel
theorem all_7_4 : ∀ (m : Fin 66), laws_FnExactNumberedScale.f 40 7 ((m.val : Int) + 264) = some true := by decide +kernel
theorem all_7_5 : ∀ (m : Fin 66), laws_FnExactNumberedScale.f 40 7 ((m.val : Int) + 330) = some true := by decide +kernel
theorem all_7_6 : ∀ (m : Fin 66), laws_FnExactNumberedScale.f 40 7 ((m.val : Int) + 396) = some true := by decide +kernel
theorem all_8_0 : ∀ (m : Fin 66), laws_FnExactNumberedScale.f 40 8 ((m.val : Int) + 0) = some true := by decide +kernel
theorem all_8_1 : ∀ (m : Fin 66), laws_FnExactNumberedScale.f 40 8 ((m.val : Int) + 66) = some true := by decide +kernel
theorem all_8_2 : ∀ (m : Fin 66), laws_FnExactNumberedScale.f 40 8 ((m.val : Int) + 132) = some true := by decide +kernel
theorem all_8_3 : ∀ (m : Fin 66), laws_FnExactNumberedScale.f 40 8 ((m.val : Int) + 198) = some true := by decide +kernel
theorem all_8_4 : ∀ (m : Fin 66), laws_FnExactNumberedScale.f 40 8 ((m.val : Int) + 264) = some true := by decide +kernel
theorem all_8_5 : ∀ (m : Fin 66), laws_FnExactNumberedScale.f 40 8 ((m.val : Int) + 330) = some true := by decide +kernel
theorem all_8_6 : ∀ (m : Fin 66), laws_FnExactNumberedScale.f 40 8 ((m.val : Int) + 396) = some true := by decide +kernel
theorem all_9_0 : ∀ (m : Fin 66), laws_FnExactNumberedScale.f 40 9 ((m.val : Int) + 0) = some true := by decide +kernel
theorem all_9_1 : ∀ (m : Fin 66), laws_FnExactNumberedScale.f 40 9 ((m.val : Int) + 66) = some true := by decide +kernel
theorem all_9_2 : ∀ (m : Fin 66), laws_FnExactNumberedScale.f 40 9 ((m.val : Int) + 132) = some true := by decide +kernel
theorem all_9_3 : ∀ (m : Fin 66), laws_FnExactNumberedScale.f 40 9 ((m.val : Int) + 198) = some true := by decide +kernel
theorem all_9_4 : ∀ (m : Fin 66), laws_FnExactNumberedScale.f 40 9 ((m.val : Int) + 264) = some true := by decide +kernel
theorem all_9_5 : ∀ (m : Fin 66), laws_FnExactNumberedScale.f 40 9 ((m.val : Int) + 330) = some true := by decide +kernel
theorem all_9_6 : ∀ (m : Fin 66), laws_FnExactNumberedScale.f 40 9 ((m.val : Int) + 396) = some true := by decide +kernel
theorem all_10_0 : ∀ (m : Fin 66), laws_FnExactNumberedScale.f 40 10 ((m.val : Int) + 0) = some true := by decide +kernel
theorem all_10_1 : ∀ (m : Fin 66), laws_FnExactNumberedScale.f 40 10 ((m.val : Int) + 66) = some true := by decide +kernel
theorem all_10_2 : ∀ (m : Fin 66), laws_FnExactNumberedScale.f 40 10 ((m.val : Int) + 132) = some true := by decide +kernel
theorem all_10_3 : ∀ (m : Fin 66), laws_FnExactNumberedScale.f 40 10 ((m.val : Int) + 198) = some true := by decide +kernel
theorem all_10_4 : ∀ (m : Fin 66), laws_FnExactNumberedScale.f 40 10 ((m.val : Int) + 264) = some true := by decide +kernel
theorem all_10_5 : ∀ (m : Fin 66), laws_FnExactNumberedScale.f 40 10 ((m.val : Int) + 330) = some true := by decide +kernel
theorem all_10_6 : ∀ (m : Fin 66), laws_FnExactNumberedScale.f 40 10 ((m.val : Int) + 396) = some true := by decide +kernel
theorem all_11_0 : ∀ (m : Fin 66), laws_FnExactNumberedScale.f 40 11 ((m.val : Int) + 0) = some true := by decide +kernel
theorem all_11_1 : ∀ (m : Fin 66), laws_FnExactNumberedScale.f 40 11 ((m.val : Int) + 66) = some true := by decide +kernel
theorem all_11_2 : ∀ (m : Fin 66), laws_FnExactNumberedScale.f 40 11 ((m.val : Int) + 132) = some true := by decide +kernel
theorem all_11_3 : ∀ (m : Fin 66), laws_FnExactNumberedScale.f 40 11 ((m.val : Int) + 198) = some true := by decide +kernel
theorem all_11_4 : ∀ (m : Fin 66), laws_FnExactNumberedScale.f 40 11 ((m.val : Int) + 264) = some true := by decide +kernel
theorem all_11_5 : ∀ (m : Fin 66), laws_FnExactNumberedScale.f 40 11 ((m.val : Int) + 330) = some true := by decide +kernel
theorem all_11_6 : ∀ (m : Fin 66), laws_FnExactNumberedScale.f 40 11 ((m.val : Int) + 396) = some true := by decide +kernel
theorem all_12_0 : ∀ (m : Fin 66), laws_FnExactNumberedScale.f 40 12 ((m.val : Int) + 0) = some true := by decide +kernel
theorem all_12_1 : ∀ (m : Fin 66), laws_FnExactNumberedScale.f 40 12 ((m.val : Int) + 66) = some true := by decide +kernel
theorem all_12_2 : ∀ (m : Fin 66), laws_FnExactNumberedScale.f 40 12 ((m.val : Int) + 132) = some true := by decide +kernel
theorem all_12_3 : ∀ (m : Fin 66), laws_FnExactNumberedScale.f 40 12 ((m.val : Int) + 198) = some true := by decide +kernel
theorem all_12_4 : ∀ (m : Fin 66), laws_FnExactNumberedScale.f 40 12 ((m.val : Int) + 264) = some true := by decide +kernel
theorem all_12_5 : ∀ (m : Fin 66), laws_FnExactNumberedScale.f 40 12 ((m.val : Int) + 330) = some true := by decide +kernel
theorem all_12_6 : ∀ (m : Fin 66), laws_FnExactNumberedScale.f 40 12 ((m.val : Int) + 396) = some true := by decide +kernel
theorem choose_fin : ∀ (n : Fin 8), ∃ c : Fin 463, spec_l03Choose.f 20 11 (wrap64 ((n.val : Int) + 5 - 1)) = some c.val ∧ impl_choose.f 20 11 (wrap64 ((n.val : Int) + 5 - 1)) = some c.val := by decide +kernel
theorem none_eq (a b : Int) (h : ¬ (5 ≤ a ∧ a ≤ 12 ∧ 0 ≤ b ∧ b < 462)) (k : Nat) (hk : 20 ≤ k) : spec_NumberedScale.f k a b = some ([], 2) ∧ impl_NumberedScale.f k a b = some ([], 2) := by
  obtain ⟨k', rfl⟩ : ∃ m, k = m + 1 := ⟨k - 1, by omega⟩
  unfold spec_NumberedScale.f spec_l03Size.f impl_NumberedScale.f
  rw [l00In_eq, within_eq]
  simp only [Option.bind_some]
  by_cases ha : 5 ≤ a ∧ a ≤ 12
  · obtain ⟨c, c1, c2⟩ := choose_fin ⟨(a - 5).toNat, by omega⟩
    have e1 : (((a - 5).toNat : Nat) : Int) + 5 = a := by omega
    simp only [e1] at c1 c2
    have hc := c.isLt
    have hnot : ¬ (0 ≤ b ∧ b ≤ (c.val : Int) - 1) := by omega
    simp only [decide_eq_true ha, if_true]
    rw [at_rounds (spec_l03Choose.mono _ _) hk c1, at_rounds (impl_choose.mono _ _) hk c2]
    simp only [Option.bind_some]
    rw [l00In_eq, within_eq, wr (n := (c.val : Int) - 1) (by omega)]
    simp only [Option.bind_some, decide_eq_false hnot, spec_NumberedScale.j0, impl_NumberedScale.j0, Bool.not_false, if_true, and_self]
  · simp only [decide_eq_false ha, Bool.false_eq_true, if_false, spec_NumberedScale.j0, impl_NumberedScale.j0, if_true, and_self]
theorem FnExactNumberedScale : laws_FnExactNumberedScale.Pure := by
  intro a b _ _
  refine ⟨40, ?_⟩
  by_cases h : 5 ≤ a ∧ a ≤ 12 ∧ 0 ≤ b ∧ b < 462
  · obtain ⟨h1, h2, h3, h4⟩ := h
    have part : ∀ (x c : Int), (∀ m : Fin 66, laws_FnExactNumberedScale.f 40 x ((m.val : Int) + c) = some true) → c ≤ b → b < c + 66 → laws_FnExactNumberedScale.f 40 x b = some true := by
      intro x c h h1 h2
      have := h ⟨(b - c).toNat, by omega⟩
      have e : (((b - c).toNat : Nat) : Int) + c = b := by omega
      simp only [e] at this
      exact this
    have ea : a = 5 ∨ a = 6 ∨ a = 7 ∨ a = 8 ∨ a = 9 ∨ a = 10 ∨ a = 11 ∨ a = 12 := by omega
    have eb : b < 66 ∨ (66 ≤ b ∧ b < 132) ∨ (132 ≤ b ∧ b < 198) ∨ (198 ≤ b ∧ b < 264) ∨ (264 ≤ b ∧ b < 330) ∨ (330 ≤ b ∧ b < 396) ∨ (396 ≤ b ∧ b < 462) := by omega
    rcases ea with rfl | rfl | rfl | rfl | rfl | rfl | rfl | rfl <;> rcases eb with e | e | e | e | e | e | e
    · exact part 5 0 all_5_0 (by omega) (by omega)
    · exact part 5 66 all_5_1 (by omega) (by omega)
    · exact part 5 132 all_5_2 (by omega) (by omega)
    · exact part 5 198 all_5_3 (by omega) (by omega)
    · exact part 5 264 all_5_4 (by omega) (by omega)
    · exact part 5 330 all_5_5 (by omega) (by omega)
    · exact part 5 396 all_5_6 (by omega) (by omega)
    · exact part 6 0 all_6_0 (by omega) (by omega)
    · exact part 6 66 all_6_1 (by omega) (by omega)
    · exact part 6 132 all_6_2 (by omega) (by omega)
    · exact part 6 198 all_6_3 (by omega) (by omega)
    · exact part 6 264 all_6_4 (by omega) (by omega)
    · exact part 6 330 all_6_5 (by omega) (by omega)
    · exact part 6 396 all_6_6 (by omega) (by omega)
    · exact part 7 0 all_7_0 (by omega) (by omega)
    · exact part 7 66 all_7_1 (by omega) (by omega)
    · exact part 7 132 all_7_2 (by omega) (by omega)
    · exact part 7 198 all_7_3 (by omega) (by omega)
    · exact part 7 264 all_7_4 (by omega) (by omega)
    · exact part 7 330 all_7_5 (by omega) (by omega)
    · exact part 7 396 all_7_6 (by omega) (by omega)
    · exact part 8 0 all_8_0 (by omega) (by omega)
    · exact part 8 66 all_8_1 (by omega) (by omega)
    · exact part 8 132 all_8_2 (by omega) (by omega)
    · exact part 8 198 all_8_3 (by omega) (by omega)
    · exact part 8 264 all_8_4 (by omega) (by omega)
    · exact part 8 330 all_8_5 (by omega) (by omega)
    · exact part 8 396 all_8_6 (by omega) (by omega)
    · exact part 9 0 all_9_0 (by omega) (by omega)
    · exact part 9 66 all_9_1 (by omega) (by omega)
    · exact part 9 132 all_9_2 (by omega) (by omega)
    · exact part 9 198 all_9_3 (by omega) (by omega)
    · exact part 9 264 all_9_4 (by omega) (by omega)
    · exact part 9 330 all_9_5 (by omega) (by omega)
    · exact part 9 396 all_9_6 (by omega) (by omega)
    · exact part 10 0 all_10_0 (by omega) (by omega)
    · exact part 10 66 all_10_1 (by omega) (by omega)
    · exact part 10 132 all_10_2 (by omega) (by omega)
    · exact part 10 198 all_10_3 (by omega) (by omega)
    · exact part 10 264 all_10_4 (by omega) (by omega)
    · exact part 10 330 all_10_5 (by omega) (by omega)
    · exact part 10 396 all_10_6 (by omega) (by omega)
    · exact part 11 0 all_11_0 (by omega) (by omega)
    · exact part 11 66 all_11_1 (by omega) (by omega)
    · exact part 11 132 all_11_2 (by omega) (by omega)
    · exact part 11 198 all_11_3 (by omega) (by omega)
    · exact part 11 264 all_11_4 (by omega) (by omega)
    · exact part 11 330 all_11_5 (by omega) (by omega)
    · exact part 11 396 all_11_6 (by omega) (by omega)
    · exact part 12 0 all_12_0 (by omega) (by omega)
    · exact part 12 66 all_12_1 (by omega) (by omega)
    · exact part 12 132 all_12_2 (by omega) (by omega)
    · exact part 12 198 all_12_3 (by omega) (by omega)
    · exact part 12 264 all_12_4 (by omega) (by omega)
    · exact part 12 330 all_12_5 (by omega) (by omega)
    · exact part 12 396 all_12_6 (by omega) (by omega)
  · unfold laws_FnExactNumberedScale.f
    rw [(none_eq a b h 40 (by omega)).1, (none_eq a b h 40 (by omega)).2]
    simp only [Option.bind_some, laws_eqInt64S.f, laws_eqInt64S.l0, laws_FnExactNumberedScale.j0, laws_markInt64S.f, laws_markInt64S.l0, laws_heldInt64S.f, laws_heldInt64S.l0]
    simp only [List.length_nil, Int.natCast_zero, Int.lt_irrefl, if_true, if_false, Option.bind_some, bne_self_eq_false, Bool.false_eq_true]
    rw [(none_eq a b h 39 (by omega)).2]
    simp [laws_FnExactNumberedScale.j1, laws_heldInt64S.f, laws_heldInt64S.l0]

end Go.Proofs.Ytnmpkijibhidaaa.Pure
