/- Proved: the plain statement of the law FnExactBlend: the program's function and the reference's give the same answer. Conditions: none beyond the statement's own. -/
import Derived.Test.YtnmpkijibhidaaaPFnExactBlendx2
namespace Go.Proofs.Ytnmpkijibhidaaa.Pure
open Go.RowKit Go.Proofs.Ytnmpkijibhidaaa.PFnExactBlend Go.Proofs.YtnmpkijibhidaaaW.PrintWords Go.Proofs.YtnmpkijibhidaaaW.PrintLast
set_option linter.unusedVariables false
set_option linter.unusedSimpArgs false

theorem l00In_eq (a b c : Int) : spec_l00In.f a b c = some (decide (b ≤ a ∧ a ≤ c)) := by
  unfold spec_l00In.f
  by_cases h : a ≥ b <;> simp [h]

theorem within_eq (a b c : Int) : impl_within.f a b c = some (decide (b ≤ a ∧ a ≤ c)) := by
  unfold impl_within.f
  by_cases h : a ≥ b <;> simp [h]

theorem wr {n : Int} (h : -9223372036854775808 ≤ n ∧ n ≤ 9223372036854775807) : wrap64 n = n := by unfold wrap64; omega

theorem div_core (A B : Int) (hA : 0 ≤ A) (hB : 0 < B) : (2 * A + B) / (2 * B) = if A % B ≥ B - A % B then A / B + 1 else A / B := by
  have e : B * (A / B) + A % B = A := Int.mul_ediv_add_emod A B
  have h0 : 0 ≤ A % B := Int.emod_nonneg A (by omega)
  have h1 : A % B < B := Int.emod_lt_of_pos A hB
  generalize A % B = r at *
  generalize A / B = q at *
  split
  · rw [show 2 * A + B = (2 * r - B) + (2 * B) * (q + 1) by rw [← e, Int.mul_add, Int.mul_add]; rw [Int.mul_assoc 2 B q]; omega,
      Int.add_mul_ediv_left _ _ (by omega), Int.ediv_eq_zero_of_lt (by omega) (by omega)]; omega
  · rw [show 2 * A + B = (2 * r + B) + (2 * B) * q by rw [← e, Int.mul_add]; rw [Int.mul_assoc 2 B q]; omega,
      Int.add_mul_ediv_left _ _ (by omega), Int.ediv_eq_zero_of_lt (by omega) (by omega)]; omega

/-- The nearest quotient, halves away from 0. -/
def divR (a b : Int) : Int :=
  if b < 0 then (if a > 0 then -((2 * a + -b) / (2 * -b)) else (2 * -a + -b) / (2 * -b))
  else (if a < 0 then -((2 * -a + b) / (2 * b)) else (2 * a + b) / (2 * b))

theorem quot_bound (A B : Int) (hA : 0 ≤ A) (hB : 0 < B) : 0 ≤ (2 * A + B) / (2 * B) ∧ (2 * A + B) / (2 * B) ≤ 2 * A + B :=
  ⟨Int.ediv_nonneg (by omega) (by omega), Int.ediv_le_self _ (by omega)⟩

theorem ediv_le_self' (A B : Int) (hA : 0 ≤ A) (hB : 0 < B) : 0 ≤ A / B ∧ A / B ≤ A :=
  ⟨Int.ediv_nonneg hA (by omega), Int.ediv_le_self _ hA⟩

theorem l01Div_eq (a b : Int) (ha : -1000000000000000000 ≤ a ∧ a ≤ 1000000000000000000) (hb : -1000000000000000000 ≤ b ∧ b ≤ 1000000000000000000) (h0 : b ≠ 0) :
    spec_l01Div.f a b = some (divR a b) := by
  unfold spec_l01Div.f divR
  have w1 : wrap64 (-a) = -a := wr (by omega)
  have w2 : wrap64 (-b) = -b := wr (by omega)
  rw [w1, w2]
  have w3 : wrap64 (2 * -a) = 2 * -a := wr (by omega)
  have w4 : wrap64 (2 * -b) = 2 * -b := wr (by omega)
  have w5 : wrap64 (2 * a) = 2 * a := wr (by omega)
  have w6 : wrap64 (2 * b) = 2 * b := wr (by omega)
  rw [w3, w4, w5, w6]
  by_cases c : b < 0
  · rw [if_pos c, if_pos c]
    by_cases d : a > 0
    · rw [if_pos (show -a < 0 by omega), if_neg (by omega), if_pos d]
      have hq := quot_bound a (-b) (by omega) (by omega)
      rw [show -b - 2 * -a = 2 * a + -b by omega, wr (n := 2 * a + -b) (by omega), Int.tdiv_eq_ediv_of_nonneg (by omega), wr (n := (2 * a + -b) / (2 * -b)) (by omega), wr (by omega)]
    · rw [if_neg (show ¬ -a < 0 by omega), if_neg (by omega), if_neg d]
      have hq := quot_bound (-a) (-b) (by omega) (by omega)
      rw [wr (n := 2 * -a + -b) (by omega), Int.tdiv_eq_ediv_of_nonneg (by omega), wr (by omega)]
  · rw [if_neg c, if_neg c]
    by_cases d : a < 0
    · rw [if_pos d, if_neg (by omega), if_pos d]
      have hq := quot_bound (-a) b (by omega) (by omega)
      rw [show b - 2 * a = 2 * -a + b by omega, wr (n := 2 * -a + b) (by omega), Int.tdiv_eq_ediv_of_nonneg (by omega), wr (n := (2 * -a + b) / (2 * b)) (by omega), wr (by omega)]
    · rw [if_neg d, if_neg (by omega), if_neg d]
      have hq := quot_bound a b (by omega) (by omega)
      rw [wr (n := 2 * a + b) (by omega), Int.tdiv_eq_ediv_of_nonneg (by omega), wr (by omega)]

theorem abs_pos (a : Int) (h : 0 ≤ a ∧ a ≤ 9000000000000000000) : impl_abs.f a = some a := by
  unfold impl_abs.f mx
  rw [wr (n := -a) (by omega)]
  rw [if_neg (by omega)]
theorem abs_neg (a : Int) (h : 0 ≤ a ∧ a ≤ 9000000000000000000) : impl_abs.f (-a) = some a := by
  unfold impl_abs.f mx
  rw [wr (n := - -a) (by omega)]
  split
  · congr 1; omega
  · congr 1; omega

theorem divRound_eq (a b : Int) (ha : -1000000000000000000 ≤ a ∧ a ≤ 1000000000000000000) (hb : -1000000000000000000 ≤ b ∧ b ≤ 1000000000000000000) (h0 : b ≠ 0) :
    impl_divRound.f a b = some (divR a b) := by
  unfold impl_divRound.f divR
  rw [if_neg h0]
  have key : ∀ A B : Int, 0 ≤ A → 0 < B → A ≤ 1000000000000000000 → B ≤ 1000000000000000000 →
      (0 ≤ A % B ∧ A % B < B ∧ wrap64 (B - A % B) = B - A % B ∧ 0 ≤ A / B ∧ A / B ≤ A) := by
    intro A B hA hB h1 h2
    have e0 := Int.emod_nonneg A (show B ≠ 0 by omega)
    have e1 := Int.emod_lt_of_pos A hB
    have e2 := ediv_le_self' A B hA hB
    exact ⟨e0, e1, wr (by omega), e2.1, e2.2⟩
  by_cases c : b < 0
  · rw [if_pos c]
    by_cases d : a > 0
    · obtain ⟨k0, k1, k2, k3, k4⟩ := key a (-b) (by omega) (by omega) (by omega) (by omega)
      have t1 : Int.tmod a b = a % -b := by rw [← Int.tmod_neg, Int.tmod_eq_emod_of_nonneg (by omega)]
      have t2 : Int.tdiv a b = -(a / -b) := by rw [← Int.tdiv_eq_ediv_of_nonneg (by omega), Int.tdiv_neg, Int.neg_neg]
      rw [t1, t2, if_pos d, abs_pos (a % -b) (by omega), Option.bind_some, show b = - -b by omega, abs_neg (-b) (by omega), Option.bind_some]
      simp only [Int.neg_neg]
      rw [k2, div_core a (-b) (by omega) (by omega)]
      have s1 : decide (a < 0) = false := decide_eq_false (by omega)
      have s2 : decide (b < 0) = true := decide_eq_true (by omega)
      rw [s1, s2]
      split
      · rw [if_neg (by decide), wr (n := -(a / -b)) (by omega), wr (by omega)]; congr 1; omega
      · rw [wr (by omega)]
    · obtain ⟨k0, k1, k2, k3, k4⟩ := key (-a) (-b) (by omega) (by omega) (by omega) (by omega)
      have t1 : Int.tmod a b = -(-a % -b) := by
        rw [← Int.tmod_eq_emod_of_nonneg (by omega), Int.tmod_neg, Int.neg_tmod, Int.neg_neg]
      have t2 : Int.tdiv a b = -a / -b := by rw [← Int.tdiv_eq_ediv_of_nonneg (by omega), Int.tdiv_neg, Int.neg_tdiv, Int.neg_neg]
      rw [t1, t2, if_neg d, abs_neg (-a % -b) (by omega), Option.bind_some, show b = - -b by omega, abs_neg (-b) (by omega), Option.bind_some]
      simp only [Int.neg_neg]
      rw [k2, div_core (-a) (-b) (by omega) (by omega)]
      split
      · rename_i hh
        have ha0 : a < 0 := by
          by_cases e : a = 0
          · subst e; simp at hh; omega
          · omega
        have s1 : decide (a < 0) = true := decide_eq_true (by omega)
        have s2 : decide (b < 0) = true := decide_eq_true (by omega)
        rw [s1, s2, if_pos (by decide), wr (n := -a / -b) (by omega), wr (by omega)]
      · rw [wr (by omega)]
  · rw [if_neg c]
    by_cases d : a < 0
    · obtain ⟨k0, k1, k2, k3, k4⟩ := key (-a) b (by omega) (by omega) (by omega) (by omega)
      have t1 : Int.tmod a b = -(-a % b) := by
        rw [← Int.tmod_eq_emod_of_nonneg (by omega), Int.neg_tmod, Int.neg_neg]
      have t2 : Int.tdiv a b = -(-a / b) := by rw [← Int.tdiv_eq_ediv_of_nonneg (by omega), Int.neg_tdiv, Int.neg_neg]
      rw [t1, t2, if_pos d, abs_neg (-a % b) (by omega), Option.bind_some, abs_pos b (by omega), Option.bind_some]
      rw [k2, div_core (-a) b (by omega) (by omega)]
      have s1 : decide (a < 0) = true := decide_eq_true (by omega)
      have s2 : decide (b < 0) = false := decide_eq_false (by omega)
      rw [s1, s2]
      split
      · rw [if_neg (by decide), wr (n := -(-a / b)) (by omega), wr (by omega)]; congr 1; omega
      · rw [wr (by omega)]
    · obtain ⟨k0, k1, k2, k3, k4⟩ := key a b (by omega) (by omega) (by omega) (by omega)
      rw [Int.tmod_eq_emod_of_nonneg (by omega), Int.tdiv_eq_ediv_of_nonneg (by omega), if_neg d, abs_pos (a % b) (by omega), Option.bind_some, abs_pos b (by omega), Option.bind_some]
      rw [k2, div_core a b (by omega) (by omega)]
      have s1 : decide (a < 0) = false := decide_eq_false (by omega)
      have s2 : decide (b < 0) = false := decide_eq_false (by omega)
      rw [s1, s2]
      split
      · rw [if_pos (by decide), wr (n := a / b) (by omega), wr (by omega)]
      · rw [wr (by omega)]

theorem line_core (a0 a1 a2 a3 a4 : Int) (h0 : -1000000 ≤ a0 ∧ a0 ≤ 1000000) (h1 : -1000000 ≤ a1 ∧ a1 ≤ 1000000) (h2 : -1000000 ≤ a2 ∧ a2 ≤ 1000000) (h3 : -1000000 ≤ a3 ∧ a3 ≤ 1000000) :
    ∃ v, spec_l01Line.f 1 a0 a1 a2 a3 a4 = some v ∧ impl_blend.f 1 a0 a1 a2 a3 a4 = some v := by
  unfold spec_l01Line.f impl_blend.f
  by_cases c : a4 ≤ a0
  · simp only [if_pos c]; simp [spec_l01Line.j0, impl_blend.j0]
  · simp only [if_neg c]
    by_cases d : a2 ≤ a0
    · simp [spec_l01Line.j0, impl_blend.j0, d]
    · by_cases e : a4 ≥ a2
      · simp [spec_l01Line.j0, impl_blend.j0, d, e]
      · have b : ∀ p q : Int, -2000000 ≤ p ∧ p ≤ 2000000 → 0 ≤ q ∧ q ≤ 2000000 → -4000000000000 ≤ p * q ∧ p * q ≤ 4000000000000 := by
          intro p q hp hq
          have u1 := Int.mul_le_mul_of_nonneg_right hp.1 hq.1
          have u2 := Int.mul_le_mul_of_nonneg_right hp.2 hq.1
          omega
        have hb := b (a3 - a1) (a4 - a0) (by omega) (by omega)
        simp only [spec_l01Line.j0, impl_blend.j0, d, e, decide_false, Bool.false_eq_true, if_false]
        rw [wr (n := a3 - a1) (by omega), wr (n := a4 - a0) (by omega), wr (n := a2 - a0) (by omega), wr (n := (a3 - a1) * (a4 - a0)) (by omega)]
        rw [l01Div_eq _ _ (by omega) (by omega) (by omega), divRound_eq _ _ (by omega) (by omega) (by omega)]
        simp
theorem FnExactBlend : laws_FnExactBlend.Pure := by
  intro a0 a1 a2 a3 a4 _ _ _ _ _
  refine ⟨1, ?_⟩
  unfold laws_FnExactBlend.f spec_Blend.f impl_Blend.f
  simp only [l00In_eq, within_eq, Option.bind_some, decide_eq_true_eq]
  by_cases h0 : -1000000 ≤ a0 ∧ a0 ≤ 1000000
  · by_cases h1 : -1000000 ≤ a1 ∧ a1 ≤ 1000000
    · by_cases h2 : -1000000 ≤ a2 ∧ a2 ≤ 1000000
      · by_cases h3 : -1000000 ≤ a3 ∧ a3 ≤ 1000000
        · obtain ⟨v, e1, e2⟩ := line_core a0 a1 a2 a3 a4 h0 h1 h2 h3
          simp [h0, h1, h2, h3, e1, e2]
        · simp [h0, h1, h2, h3]
      · simp [h0, h1, h2]
    · simp [h0, h1]
  · simp [h0]

end Go.Proofs.Ytnmpkijibhidaaa.Pure
