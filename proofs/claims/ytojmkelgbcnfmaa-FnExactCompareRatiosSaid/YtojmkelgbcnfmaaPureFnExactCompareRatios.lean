/- Proved: the plain statement of the law FnExactCompareRatios: the program's function and the reference's give the same answer. Conditions: none beyond the statement's own. -/
import Derived.Test.YtojmkelgbcnfmaaStmFnExactCompareRatios
namespace Go.Proofs.Ytojmkelgbcnfmaa.Pure
open Go.RowKit Go.Proofs.Ytojmkelgbcnfmaa.PFnExactCompareRatios Go.Proofs.YtojmkelgbcnfmaaW.PrintWords Go.Proofs.YtojmkelgbcnfmaaW.PrintLast
set_option linter.unusedVariables false
set_option linter.unusedSimpArgs false

theorem wr {n : Int} (h : -9223372036854775808 ≤ n ∧ n ≤ 9223372036854775807) : wrap64 n = n := by unfold wrap64; omega

theorem l00In_eq (a b c : Int) : spec_l00In.f a b c = some (decide (b ≤ a ∧ a ≤ c)) := by
  unfold spec_l00In.f
  by_cases h : a ≥ b <;> simp [h]

theorem within_eq (a b c : Int) : impl_within.f a b c = some (decide (b ≤ a ∧ a ≤ c)) := by
  unfold impl_within.f
  by_cases h : a ≥ b <;> simp [h]

theorem gcd_step (a b : Nat) : Nat.gcd b (a % b) = Nat.gcd a b := by
  rw [Nat.gcd_comm a b, Nat.gcd_rec b a, Nat.gcd_comm]
theorem l02Gcd_l0 (d : Nat) : ∀ (k a b : Nat), b ≤ d → d < k → spec_l02Gcd.l0 k (a : Int) (b : Int) = some (Nat.gcd a b : Int) := by
  induction d with
  | zero =>
    intro k a b hb hk
    obtain ⟨k, rfl⟩ : ∃ m, k = m + 1 := ⟨k - 1, by omega⟩
    obtain rfl : b = 0 := by omega
    simp [spec_l02Gcd.l0]
  | succ d ih =>
    intro k a b hb hk
    obtain ⟨k, rfl⟩ : ∃ m, k = m + 1 := ⟨k - 1, by omega⟩
    simp only [spec_l02Gcd.l0]
    by_cases h : (b : Int) = 0
    · rw [if_pos h]; obtain rfl : b = 0 := by omega
      simp
    · rw [if_neg h]
      have e : Int.tmod (a : Int) b = ((a % b : Nat) : Int) := rfl
      have hlt := Nat.mod_lt a (show b > 0 by omega)
      rw [e, ih k b (a % b) (by omega) (by omega), gcd_step]
theorem commonDivisor_l0 (d : Nat) : ∀ (k a b : Nat), b ≤ d → d < k → impl_commonDivisor.l0 k (a : Int) (b : Int) = some (Nat.gcd a b : Int) := by
  induction d with
  | zero =>
    intro k a b hb hk
    obtain ⟨k, rfl⟩ : ∃ m, k = m + 1 := ⟨k - 1, by omega⟩
    obtain rfl : b = 0 := by omega
    simp [impl_commonDivisor.l0]
  | succ d ih =>
    intro k a b hb hk
    obtain ⟨k, rfl⟩ : ∃ m, k = m + 1 := ⟨k - 1, by omega⟩
    simp only [impl_commonDivisor.l0]
    by_cases h : (b : Int) = 0
    · rw [if_pos h]; obtain rfl : b = 0 := by omega
      simp
    · rw [if_neg h]
      have e : Int.tmod (a : Int) b = ((a % b : Nat) : Int) := rfl
      have hlt := Nat.mod_lt a (show b > 0 by omega)
      rw [e, ih k b (a % b) (by omega) (by omega), gcd_step]
theorem l02Gcd_eq (k : Nat) (a b : Int) (ha : 0 ≤ a) (hb : 0 ≤ b) (hk : b.toNat < k) : spec_l02Gcd.f k a b = some (Nat.gcd a.toNat b.toNat : Int) := by
  unfold spec_l02Gcd.f
  have := l02Gcd_l0 b.toNat k a.toNat b.toNat (Nat.le_refl _) hk
  rwa [show ((a.toNat : Nat) : Int) = a by omega, show ((b.toNat : Nat) : Int) = b by omega] at this
theorem commonDivisor_eq (k : Nat) (a b : Int) (ha : 0 ≤ a) (hb : 0 ≤ b) (hk : b.toNat < k) : impl_commonDivisor.f k a b = some (Nat.gcd a.toNat b.toNat : Int) := by
  unfold impl_commonDivisor.f
  have := commonDivisor_l0 b.toNat k a.toNat b.toNat (Nat.le_refl _) hk
  rwa [show ((a.toNat : Nat) : Int) = a by omega, show ((b.toNat : Nat) : Int) = b by omega] at this
/-- Two numbers that are a valid ratio. -/
def RatOk (x y : Int) : Prop := (1 ≤ x ∧ x ≤ 1000000) ∧ (1 ≤ y ∧ y ≤ 1000000) ∧ Nat.gcd x.toNat y.toNat = 1
instance ratOkDec (x y : Int) : Decidable (RatOk x y) := by unfold RatOk; infer_instance
theorem one_beq (n : Nat) : (((n : Int) == 1) : Bool) = decide (n = 1) := by
  rw [Bool.eq_iff_iff, beq_iff_eq, decide_eq_true_iff]; omega
theorem l02Ok_eq (k : Nat) (x y : Int) (hk : 1000000 < k) : spec_l02Ok.f k x y = some (decide (RatOk x y)) := by
  unfold spec_l02Ok.f spec_l02Part.f
  rw [l00In_eq, l00In_eq]
  simp only [Option.bind_some]
  by_cases h1 : 1 ≤ x ∧ x ≤ 1000000
  · by_cases h2 : 1 ≤ y ∧ y ≤ 1000000
    · rw [l02Gcd_eq k x y (by omega) (by omega) (by omega)]
      simp only [Option.bind_some, decide_eq_true h1, decide_eq_true h2, if_true]
      rw [one_beq]; congr 1; simp [RatOk, h1, h2]
    · simp [h1, h2, RatOk]
  · simp [h1, RatOk]

theorem ValidRatio_eq (k : Nat) (x y : Int) (hk : 1000000 < k) : impl_ValidRatio.f k x y = some (decide (RatOk x y)) := by
  unfold impl_ValidRatio.f
  rw [within_eq, within_eq]
  simp only [Option.bind_some]
  by_cases h1 : 1 ≤ x ∧ x ≤ 1000000
  · by_cases h2 : 1 ≤ y ∧ y ≤ 1000000
    · rw [commonDivisor_eq k x y (by omega) (by omega) (by omega)]
      simp only [Option.bind_some, decide_eq_true h1, decide_eq_true h2, if_true]
      rw [one_beq]; congr 1; simp [RatOk, h1, h2]
    · simp [h1, h2, RatOk]
  · simp [h1, RatOk]

theorem FnExactCompareRatios : laws_FnExactCompareRatios.Pure := by
  intro a b c d _ _ _ _
  refine ⟨1000001, ?_⟩
  unfold laws_FnExactCompareRatios.f spec_CompareRatios.f impl_CompareRatios.f laws_toRatio.f spec_l02Compare.f impl_Ratio_compare.f cmp_Compare_int64.f cmp_isNaN_int64.f
  simp only [Option.bind_some]
  rw [l02Ok_eq _ a b (by omega), l02Ok_eq _ c d (by omega), ValidRatio_eq _ a b (by omega), ValidRatio_eq _ c d (by omega)]
  simp only [Option.bind_some, bne_self_eq_false, Bool.false_eq_true, if_false]
  by_cases h1 : RatOk a b
  · by_cases h2 : RatOk c d
    · simp only [decide_eq_true h1, decide_eq_true h2, if_true]
      by_cases c1 : wrap64 (a * d) < wrap64 (c * b)
      · simp [c1]
      · by_cases c2 : wrap64 (a * d) > wrap64 (c * b)
        · simp [c1, c2]
        · simp [c1, c2]
    · simp [h1, h2]
  · simp [h1]

end Go.Proofs.Ytojmkelgbcnfmaa.Pure
