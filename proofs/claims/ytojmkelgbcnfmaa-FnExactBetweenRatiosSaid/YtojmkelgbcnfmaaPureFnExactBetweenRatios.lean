/- Proved: the plain statement of the law FnExactBetweenRatios: the program's function and the reference's give the same answer. Conditions: none beyond the statement's own. -/
import Derived.Test.YtojmkelgbcnfmaaStmFnExactBetweenRatios
namespace Go.Proofs.Ytojmkelgbcnfmaa.Pure
open Go.RowKit Go.Proofs.Ytojmkelgbcnfmaa.PFnExactBetweenRatios Go.Proofs.YtojmkelgbcnfmaaW.PrintWords Go.Proofs.YtojmkelgbcnfmaaW.PrintLast
set_option linter.unusedVariables false
set_option linter.unusedSimpArgs false

theorem wr {n : Int} (h : -9223372036854775808 ≤ n ∧ n ≤ 9223372036854775807) : wrap64 n = n := by unfold wrap64; omega

theorem l00In_eq (a b c : Int) : spec_l00In.f a b c = some (decide (b ≤ a ∧ a ≤ c)) := by
  unfold spec_l00In.f
  by_cases h : a ≥ b <;> simp [h]

theorem within_eq (a b c : Int) : impl_within.f a b c = some (decide (b ≤ a ∧ a ≤ c)) := by
  unfold impl_within.f
  by_cases h : a ≥ b <;> simp [h]

theorem gcd_step (a b : Nat) : Nat.gcd b (a % b) = Nat.gcd a b := by
  rw [Nat.gcd_comm a b, Nat.gcd_rec b a, Nat.gcd_comm]
theorem l02Gcd_l0 (d : Nat) : ∀ (k a b : Nat), b ≤ d → d < k → spec_l02Gcd.l0 k (a : Int) (b : Int) = some (Nat.gcd a b : Int) := by
  induction d with
  | zero =>
    intro k a b hb hk
    obtain ⟨k, rfl⟩ : ∃ m, k = m + 1 := ⟨k - 1, by omega⟩
    obtain rfl : b = 0 := by omega
    simp [spec_l02Gcd.l0]
  | succ d ih =>
    intro k a b hb hk
    obtain ⟨k, rfl⟩ : ∃ m, k = m + 1 := ⟨k - 1, by omega⟩
    simp only [spec_l02Gcd.l0]
    by_cases h : (b : Int) = 0
    · rw [if_pos h]; obtain rfl : b = 0 := by omega
      simp
    · rw [if_neg h]
      have e : Int.tmod (a : Int) b = ((a % b : Nat) : Int) := rfl
      have hlt := Nat.mod_lt a (show b > 0 by omega)
      rw [e, ih k b (a % b) (by omega) (by omega), gcd_step]
theorem commonDivisor_l0 (d : Nat) : ∀ (k a b : Nat), b ≤ d → d < k → impl_commonDivisor.l0 k (a : Int) (b : Int) = some (Nat.gcd a b : Int) := by
  induction d with
  | zero =>
    intro k a b hb hk
    obtain ⟨k, rfl⟩ : ∃ m, k = m + 1 := ⟨k - 1, by omega⟩
    obtain rfl : b = 0 := by omega
    simp [impl_commonDivisor.l0]
  | succ d ih =>
    intro k a b hb hk
    obtain ⟨k, rfl⟩ : ∃ m, k = m + 1 := ⟨k - 1, by omega⟩
    simp only [impl_commonDivisor.l0]
    by_cases h : (b : Int) = 0
    · rw [if_pos h]; obtain rfl : b = 0 := by omega
      simp
    · rw [if_neg h]
      have e : Int.tmod (a : Int) b = ((a % b : Nat) : Int) := rfl
      have hlt := Nat.mod_lt a (show b > 0 by omega)
      rw [e, ih k b (a % b) (by omega) (by omega), gcd_step]
theorem l02Gcd_eq (k : Nat) (a b : Int) (ha : 0 ≤ a) (hb : 0 ≤ b) (hk : b.toNat < k) : spec_l02Gcd.f k a b = some (Nat.gcd a.toNat b.toNat : Int) := by
  unfold spec_l02Gcd.f
  have := l02Gcd_l0 b.toNat k a.toNat b.toNat (Nat.le_refl _) hk
  rwa [show ((a.toNat : Nat) : Int) = a by omega, show ((b.toNat : Nat) : Int) = b by omega] at this
theorem commonDivisor_eq (k : Nat) (a b : Int) (ha : 0 ≤ a) (hb : 0 ≤ b) (hk : b.toNat < k) : impl_commonDivisor.f k a b = some (Nat.gcd a.toNat b.toNat : Int) := by
  unfold impl_commonDivisor.f
  have := commonDivisor_l0 b.toNat k a.toNat b.toNat (Nat.le_refl _) hk
  rwa [show ((a.toNat : Nat) : Int) = a by omega, show ((b.toNat : Nat) : Int) = b by omega] at this
/-- Two numbers that are a valid ratio. -/
def RatOk (x y : Int) : Prop := (1 ≤ x ∧ x ≤ 1000000) ∧ (1 ≤ y ∧ y ≤ 1000000) ∧ Nat.gcd x.toNat y.toNat = 1
instance ratOkDec (x y : Int) : Decidable (RatOk x y) := by unfold RatOk; infer_instance
theorem one_beq (n : Nat) : (((n : Int) == 1) : Bool) = decide (n = 1) := by
  rw [Bool.eq_iff_iff, beq_iff_eq, decide_eq_true_iff]; omega
theorem l02Ok_eq (k : Nat) (x y : Int) (hk : 1000000 < k) : spec_l02Ok.f k x y = some (decide (RatOk x y)) := by
  unfold spec_l02Ok.f spec_l02Part.f
  rw [l00In_eq, l00In_eq]
  simp only [Option.bind_some]
  by_cases h1 : 1 ≤ x ∧ x ≤ 1000000
  · by_cases h2 : 1 ≤ y ∧ y ≤ 1000000
    · rw [l02Gcd_eq k x y (by omega) (by omega) (by omega)]
      simp only [Option.bind_some, decide_eq_true h1, decide_eq_true h2, if_true]
      rw [one_beq]; congr 1; simp [RatOk, h1, h2]
    · simp [h1, h2, RatOk]
  · simp [h1, RatOk]

/-- The reduced ratio of two positive numbers, or the code 5. -/
def redR (a b : Int) : Int × Int × Int :=
  if RatOk (a / (Nat.gcd a.toNat b.toNat : Int)) (b / (Nat.gcd a.toNat b.toNat : Int)) then (a / (Nat.gcd a.toNat b.toNat : Int), b / (Nat.gcd a.toNat b.toNat : Int), 0) else (0, 0, 5)
theorem red_facts (a b : Int) (ha : 1 ≤ a) (hb : 1 ≤ b) : ∃ g : Nat, g = Nat.gcd a.toNat b.toNat ∧ 0 < g ∧ 1 ≤ a / (g : Int) ∧ a / (g : Int) ≤ a ∧ 1 ≤ b / (g : Int) ∧ b / (g : Int) ≤ b ∧ Nat.gcd (a / (g : Int)).toNat (b / (g : Int)).toNat = 1 := by
  obtain ⟨x, rfl⟩ := Int.eq_ofNat_of_zero_le (show 0 ≤ a by omega)
  obtain ⟨y, rfl⟩ := Int.eq_ofNat_of_zero_le (show 0 ≤ b by omega)
  have hx : 0 < x := by omega
  have hy : 0 < y := by omega
  have hg : 0 < Nat.gcd x y := Nat.gcd_pos_of_pos_left _ hx
  have h1 := Nat.gcd_div_gcd_div_gcd_of_pos_left (m := y) hx
  have e1 : (x : Int) / ((Nat.gcd x y : Nat) : Int) = ((x / Nat.gcd x y : Nat) : Int) := rfl
  have e2 : (y : Int) / ((Nat.gcd x y : Nat) : Int) = ((y / Nat.gcd x y : Nat) : Int) := rfl
  have p1 : 0 < x / Nat.gcd x y := Nat.div_pos (Nat.le_of_dvd hx (Nat.gcd_dvd_left x y)) hg
  have p2 : 0 < y / Nat.gcd x y := Nat.div_pos (Nat.le_of_dvd hy (Nat.gcd_dvd_right x y)) hg
  have q1 := Nat.div_le_self x (Nat.gcd x y)
  have q2 := Nat.div_le_self y (Nat.gcd x y)
  refine ⟨Nat.gcd x y, by simp, hg, ?_, ?_, ?_, ?_, ?_⟩
  · rw [e1]; omega
  · rw [e1]; omega
  · rw [e2]; omega
  · rw [e2]; omega
  · rw [e1, e2, Int.toNat_natCast, Int.toNat_natCast]; exact h1
theorem tdiv_nat (a : Int) (g : Nat) (ha : 0 ≤ a) : Int.tdiv a (g : Int) = a / (g : Int) := Int.tdiv_eq_ediv_of_nonneg ha
theorem l02Done_eq (k : Nat) (a b : Int) (ha : 1 ≤ a ∧ a ≤ 1000000000000000000) (hb : 1 ≤ b ∧ b ≤ 1000000000000000000) (hk : b.toNat < k) (hk2 : 1000000 < k) : spec_l02Done.f k a b = some (redR a b) := by
  unfold spec_l02Done.f redR
  rw [l02Gcd_eq k a b (by omega) (by omega) hk]
  obtain ⟨g, hg, g0, p1, q1, p2, q2, hc⟩ := red_facts a b ha.1 hb.1
  rw [← hg]
  simp only [Option.bind_some]
  rw [if_neg (by omega), tdiv_nat a g (by omega), tdiv_nat b g (by omega), wr (n := a / (g : Int)) (by omega), wr (n := b / (g : Int)) (by omega), l02Ok_eq k _ _ hk2]
  simp only [Option.bind_some]
  by_cases h : RatOk (a / (g : Int)) (b / (g : Int))
  · simp [h]
  · simp [h]
theorem reduced_eq (k : Nat) (a b : Int) (ha : 1 ≤ a ∧ a ≤ 1000000000000000000) (hb : 1 ≤ b ∧ b ≤ 1000000000000000000) (hk : b.toNat < k) : impl_reduced.f k a b = some (redR a b) := by
  unfold impl_reduced.f redR
  rw [commonDivisor_eq k a b (by omega) (by omega) hk]
  obtain ⟨g, hg, g0, p1, q1, p2, q2, hc⟩ := red_facts a b ha.1 hb.1
  rw [← hg]
  simp only [Option.bind_some]
  rw [if_neg (by omega), tdiv_nat a g (by omega), tdiv_nat b g (by omega), wr (n := a / (g : Int)) (by omega), wr (n := b / (g : Int)) (by omega)]
  by_cases h1 : a / (g : Int) > 1000000
  · rw [if_pos h1, if_neg (by unfold RatOk; omega)]
  · by_cases h2 : b / (g : Int) > 1000000
    · rw [if_neg h1, if_pos h2, if_neg (by unfold RatOk; omega)]
    · rw [if_neg h1, if_neg h2, if_pos ⟨by omega, by omega, hc⟩]

theorem ValidRatio_eq (k : Nat) (x y : Int) (hk : 1000000 < k) : impl_ValidRatio.f k x y = some (decide (RatOk x y)) := by
  unfold impl_ValidRatio.f
  rw [within_eq, within_eq]
  simp only [Option.bind_some]
  by_cases h1 : 1 ≤ x ∧ x ≤ 1000000
  · by_cases h2 : 1 ≤ y ∧ y ≤ 1000000
    · rw [commonDivisor_eq k x y (by omega) (by omega) (by omega)]
      simp only [Option.bind_some, decide_eq_true h1, decide_eq_true h2, if_true]
      rw [one_beq]; congr 1; simp [RatOk, h1, h2]
    · simp [h1, h2, RatOk]
  · simp [h1, RatOk]

theorem FnExactBetweenRatios : laws_FnExactBetweenRatios.Pure := by
  intro a b c d _ _ _ _
  obtain ⟨K, hK⟩ : ∃ K : Nat, K = 10000000000000 := ⟨_, rfl⟩
  refine ⟨K, ?_⟩
  unfold laws_FnExactBetweenRatios.f spec_BetweenRatios.f impl_BetweenRatios.f laws_eqRatio.f laws_toRatio.f
  simp only [Option.bind_some]
  rw [l02Ok_eq K a b (by omega), l02Ok_eq K c d (by omega), ValidRatio_eq K a b (by omega), ValidRatio_eq K c d (by omega)]
  simp only [Option.bind_some]
  by_cases h1 : RatOk a b
  · by_cases h2 : RatOk c d
    · have m1 := h1.1; have m2 := h1.2.1
      have m3 := h2.1; have m4 := h2.2.1
      rw [wr (n := a + c) (by omega), wr (n := b + d) (by omega)]
      rw [l02Done_eq K _ _ (by omega) (by omega) (by omega) (by omega), reduced_eq K _ _ (by omega) (by omega) (by omega)]
      simp [h1, h2]
    · simp [h1, h2]
  · simp [h1]

end Go.Proofs.Ytojmkelgbcnfmaa.Pure
