/- Proved: the plain statement of the law FnExactOctaveOf: the program's function and the reference's give the same answer. Conditions: none beyond the statement's own. -/
import Derived.Test.YtojmkelgbcnfmaaStmFnExactOctaveOf
namespace Go.Proofs.Ytojmkelgbcnfmaa.Pure
open Go.RowKit Go.Proofs.Ytojmkelgbcnfmaa.PFnExactOctaveOf Go.Proofs.YtojmkelgbcnfmaaW.PrintWords Go.Proofs.YtojmkelgbcnfmaaW.PrintLast
set_option linter.unusedVariables false
set_option linter.unusedSimpArgs false

theorem wr {n : Int} (h : -9223372036854775808 ≤ n ∧ n ≤ 9223372036854775807) : wrap64 n = n := by unfold wrap64; omega

theorem l00In_eq (a b c : Int) : spec_l00In.f a b c = some (decide (b ≤ a ∧ a ≤ c)) := by
  unfold spec_l00In.f
  by_cases h : a ≥ b <;> simp [h]

theorem within_eq (a b c : Int) : impl_within.f a b c = some (decide (b ≤ a ∧ a ≤ c)) := by
  unfold impl_within.f
  by_cases h : a ≥ b <;> simp [h]

theorem gcd_step (a b : Nat) : Nat.gcd b (a % b) = Nat.gcd a b := by
  rw [Nat.gcd_comm a b, Nat.gcd_rec b a, Nat.gcd_comm]
theorem l02Gcd_l0 (d : Nat) : ∀ (k a b : Nat), b ≤ d → d < k → spec_l02Gcd.l0 k (a : Int) (b : Int) = some (Nat.gcd a b : Int) := by
  induction d with
  | zero =>
    intro k a b hb hk
    obtain ⟨k, rfl⟩ : ∃ m, k = m + 1 := ⟨k - 1, by omega⟩
    obtain rfl : b = 0 := by omega
    simp [spec_l02Gcd.l0]
  | succ d ih =>
    intro k a b hb hk
    obtain ⟨k, rfl⟩ : ∃ m, k = m + 1 := ⟨k - 1, by omega⟩
    simp only [spec_l02Gcd.l0]
    by_cases h : (b : Int) = 0
    · rw [if_pos h]; obtain rfl : b = 0 := by omega
      simp
    · rw [if_neg h]
      have e : Int.tmod (a : Int) b = ((a % b : Nat) : Int) := rfl
      have hlt := Nat.mod_lt a (show b > 0 by omega)
      rw [e, ih k b (a % b) (by omega) (by omega), gcd_step]
theorem commonDivisor_l0 (d : Nat) : ∀ (k a b : Nat), b ≤ d → d < k → impl_commonDivisor.l0 k (a : Int) (b : Int) = some (Nat.gcd a b : Int) := by
  induction d with
  | zero =>
    intro k a b hb hk
    obtain ⟨k, rfl⟩ : ∃ m, k = m + 1 := ⟨k - 1, by omega⟩
    obtain rfl : b = 0 := by omega
    simp [impl_commonDivisor.l0]
  | succ d ih =>
    intro k a b hb hk
    obtain ⟨k, rfl⟩ : ∃ m, k = m + 1 := ⟨k - 1, by omega⟩
    simp only [impl_commonDivisor.l0]
    by_cases h : (b : Int) = 0
    · rw [if_pos h]; obtain rfl : b = 0 := by omega
      simp
    · rw [if_neg h]
      have e : Int.tmod (a : Int) b = ((a % b : Nat) : Int) := rfl
      have hlt := Nat.mod_lt a (show b > 0 by omega)
      rw [e, ih k b (a % b) (by omega) (by omega), gcd_step]
theorem l02Gcd_eq (k : Nat) (a b : Int) (ha : 0 ≤ a) (hb : 0 ≤ b) (hk : b.toNat < k) : spec_l02Gcd.f k a b = some (Nat.gcd a.toNat b.toNat : Int) := by
  unfold spec_l02Gcd.f
  have := l02Gcd_l0 b.toNat k a.toNat b.toNat (Nat.le_refl _) hk
  rwa [show ((a.toNat : Nat) : Int) = a by omega, show ((b.toNat : Nat) : Int) = b by omega] at this
theorem commonDivisor_eq (k : Nat) (a b : Int) (ha : 0 ≤ a) (hb : 0 ≤ b) (hk : b.toNat < k) : impl_commonDivisor.f k a b = some (Nat.gcd a.toNat b.toNat : Int) := by
  unfold impl_commonDivisor.f
  have := commonDivisor_l0 b.toNat k a.toNat b.toNat (Nat.le_refl _) hk
  rwa [show ((a.toNat : Nat) : Int) = a by omega, show ((b.toNat : Nat) : Int) = b by omega] at this
/-- Two numbers that are a valid ratio. -/
def RatOk (x y : Int) : Prop := (1 ≤ x ∧ x ≤ 1000000) ∧ (1 ≤ y ∧ y ≤ 1000000) ∧ Nat.gcd x.toNat y.toNat = 1
instance ratOkDec (x y : Int) : Decidable (RatOk x y) := by unfold RatOk; infer_instance
theorem one_beq (n : Nat) : (((n : Int) == 1) : Bool) = decide (n = 1) := by
  rw [Bool.eq_iff_iff, beq_iff_eq, decide_eq_true_iff]; omega
theorem l02Ok_eq (k : Nat) (x y : Int) (hk : 1000000 < k) : spec_l02Ok.f k x y = some (decide (RatOk x y)) := by
  unfold spec_l02Ok.f spec_l02Part.f
  rw [l00In_eq, l00In_eq]
  simp only [Option.bind_some]
  by_cases h1 : 1 ≤ x ∧ x ≤ 1000000
  · by_cases h2 : 1 ≤ y ∧ y ≤ 1000000
    · rw [l02Gcd_eq k x y (by omega) (by omega) (by omega)]
      simp only [Option.bind_some, decide_eq_true h1, decide_eq_true h2, if_true]
      rw [one_beq]; congr 1; simp [RatOk, h1, h2]
    · simp [h1, h2, RatOk]
  · simp [h1, RatOk]

/-- The reduced ratio of two positive numbers, or the code 5. -/
def redR (a b : Int) : Int × Int × Int :=
  if RatOk (a / (Nat.gcd a.toNat b.toNat : Int)) (b / (Nat.gcd a.toNat b.toNat : Int)) then (a / (Nat.gcd a.toNat b.toNat : Int), b / (Nat.gcd a.toNat b.toNat : Int), 0) else (0, 0, 5)
theorem red_facts (a b : Int) (ha : 1 ≤ a) (hb : 1 ≤ b) : ∃ g : Nat, g = Nat.gcd a.toNat b.toNat ∧ 0 < g ∧ 1 ≤ a / (g : Int) ∧ a / (g : Int) ≤ a ∧ 1 ≤ b / (g : Int) ∧ b / (g : Int) ≤ b ∧ Nat.gcd (a / (g : Int)).toNat (b / (g : Int)).toNat = 1 := by
  obtain ⟨x, rfl⟩ := Int.eq_ofNat_of_zero_le (show 0 ≤ a by omega)
  obtain ⟨y, rfl⟩ := Int.eq_ofNat_of_zero_le (show 0 ≤ b by omega)
  have hx : 0 < x := by omega
  have hy : 0 < y := by omega
  have hg : 0 < Nat.gcd x y := Nat.gcd_pos_of_pos_left _ hx
  have h1 := Nat.gcd_div_gcd_div_gcd_of_pos_left (m := y) hx
  have e1 : (x : Int) / ((Nat.gcd x y : Nat) : Int) = ((x / Nat.gcd x y : Nat) : Int) := rfl
  have e2 : (y : Int) / ((Nat.gcd x y : Nat) : Int) = ((y / Nat.gcd x y : Nat) : Int) := rfl
  have p1 : 0 < x / Nat.gcd x y := Nat.div_pos (Nat.le_of_dvd hx (Nat.gcd_dvd_left x y)) hg
  have p2 : 0 < y / Nat.gcd x y := Nat.div_pos (Nat.le_of_dvd hy (Nat.gcd_dvd_right x y)) hg
  have q1 := Nat.div_le_self x (Nat.gcd x y)
  have q2 := Nat.div_le_self y (Nat.gcd x y)
  refine ⟨Nat.gcd x y, by simp, hg, ?_, ?_, ?_, ?_, ?_⟩
  · rw [e1]; omega
  · rw [e1]; omega
  · rw [e2]; omega
  · rw [e2]; omega
  · rw [e1, e2, Int.toNat_natCast, Int.toNat_natCast]; exact h1
theorem tdiv_nat (a : Int) (g : Nat) (ha : 0 ≤ a) : Int.tdiv a (g : Int) = a / (g : Int) := Int.tdiv_eq_ediv_of_nonneg ha
theorem l02Done_eq (k : Nat) (a b : Int) (ha : 1 ≤ a ∧ a ≤ 1000000000000000000) (hb : 1 ≤ b ∧ b ≤ 1000000000000000000) (hk : b.toNat < k) (hk2 : 1000000 < k) : spec_l02Done.f k a b = some (redR a b) := by
  unfold spec_l02Done.f redR
  rw [l02Gcd_eq k a b (by omega) (by omega) hk]
  obtain ⟨g, hg, g0, p1, q1, p2, q2, hc⟩ := red_facts a b ha.1 hb.1
  rw [← hg]
  simp only [Option.bind_some]
  rw [if_neg (by omega), tdiv_nat a g (by omega), tdiv_nat b g (by omega), wr (n := a / (g : Int)) (by omega), wr (n := b / (g : Int)) (by omega), l02Ok_eq k _ _ hk2]
  simp only [Option.bind_some]
  by_cases h : RatOk (a / (g : Int)) (b / (g : Int))
  · simp [h]
  · simp [h]
theorem reduced_eq (k : Nat) (a b : Int) (ha : 1 ≤ a ∧ a ≤ 1000000000000000000) (hb : 1 ≤ b ∧ b ≤ 1000000000000000000) (hk : b.toNat < k) : impl_reduced.f k a b = some (redR a b) := by
  unfold impl_reduced.f redR
  rw [commonDivisor_eq k a b (by omega) (by omega) hk]
  obtain ⟨g, hg, g0, p1, q1, p2, q2, hc⟩ := red_facts a b ha.1 hb.1
  rw [← hg]
  simp only [Option.bind_some]
  rw [if_neg (by omega), tdiv_nat a g (by omega), tdiv_nat b g (by omega), wr (n := a / (g : Int)) (by omega), wr (n := b / (g : Int)) (by omega)]
  by_cases h1 : a / (g : Int) > 1000000
  · rw [if_pos h1, if_neg (by unfold RatOk; omega)]
  · by_cases h2 : b / (g : Int) > 1000000
    · rw [if_neg h1, if_pos h2, if_neg (by unfold RatOk; omega)]
    · rw [if_neg h1, if_neg h2, if_pos ⟨by omega, by omega, hc⟩]

theorem ValidRatio_eq (k : Nat) (x y : Int) (hk : 1000000 < k) : impl_ValidRatio.f k x y = some (decide (RatOk x y)) := by
  unfold impl_ValidRatio.f
  rw [within_eq, within_eq]
  simp only [Option.bind_some]
  by_cases h1 : 1 ≤ x ∧ x ≤ 1000000
  · by_cases h2 : 1 ≤ y ∧ y ≤ 1000000
    · rw [commonDivisor_eq k x y (by omega) (by omega) (by omega)]
      simp only [Option.bind_some, decide_eq_true h1, decide_eq_true h2, if_true]
      rw [one_beq]; congr 1; simp [RatOk, h1, h2]
    · simp [h1, h2, RatOk]
  · simp [h1, RatOk]

theorem oct_l1 (d : Nat) : ∀ (k : Nat) (x y z : Int), y - x ≤ d → 1 ≤ x → x < 2 * y → y ≤ 1000000 → -4000000 + d ≤ z → z ≤ 4000000 → d < k →
    ∃ r1 r2 r3, spec_l02Octave.l1 k x y z = some (r1, r2, r3) ∧ impl_Ratio_octave.l1 k x y z = some (r1, r2, r3) ∧ r2 ≤ r1 ∧ r1 < 2 * r2 ∧ 1 ≤ r2 ∧ r2 ≤ 1000000 ∧ -4000000 ≤ r3 ∧ r3 ≤ 4000000 := by
  induction d with
  | zero =>
    intro k x y z h1 h2 h3 h4 h5 h6 hk
    obtain ⟨k, rfl⟩ : ∃ m, k = m + 1 := ⟨k - 1, by omega⟩
    have c : ¬ x < y := by omega
    simp only [spec_l02Octave.l1, impl_Ratio_octave.l1, if_neg c]
    exact ⟨x, y, z, rfl, rfl, by omega, by omega, by omega, by omega, by omega, by omega⟩
  | succ d ih =>
    intro k x y z h1 h2 h3 h4 h5 h6 hk
    obtain ⟨k, rfl⟩ : ∃ m, k = m + 1 := ⟨k - 1, by omega⟩
    simp only [spec_l02Octave.l1, impl_Ratio_octave.l1]
    by_cases c : x < y
    · simp only [if_pos c]
      rw [wr (n := x * 2) (by omega), wr (n := z - 1) (by omega)]
      exact ih k (x * 2) y (z - 1) (by omega) (by omega) (by omega) h4 (by omega) (by omega) (by omega)
    · simp only [if_neg c]
      exact ⟨x, y, z, rfl, rfl, by omega, by omega, by omega, by omega, by omega, by omega⟩
theorem oct_l0 (d : Nat) : ∀ (k : Nat) (x y z : Int), x - y ≤ d → 1 ≤ x → x ≤ 1000000 → 1 ≤ y → y ≤ 1000000 → 0 ≤ z → z + d ≤ 2000000 → d + 1000002 < k →
    ∃ r1 r2 r3, spec_l02Octave.l0 k x y z = some (r1, r2, r3) ∧ impl_Ratio_octave.l0 k x y z = some (r1, r2, r3) ∧ r2 ≤ r1 ∧ r1 < 2 * r2 ∧ 1 ≤ r2 ∧ r2 ≤ 1000000 ∧ -4000000 ≤ r3 ∧ r3 ≤ 4000000 := by
  induction d with
  | zero =>
    intro k x y z h1 h2 h3 h4 h5 h6 h7 hk
    obtain ⟨k, rfl⟩ : ∃ m, k = m + 1 := ⟨k - 1, by omega⟩
    simp only [spec_l02Octave.l0, impl_Ratio_octave.l0]
    rw [wr (n := 2 * y) (by omega)]
    have c : ¬ x ≥ 2 * y := by omega
    simp only [if_neg c]
    exact oct_l1 (1000000) k x y z (by omega) h2 (by omega) h5 (by omega) (by omega) (by omega)
  | succ d ih =>
    intro k x y z h1 h2 h3 h4 h5 h6 h7 hk
    obtain ⟨k, rfl⟩ : ∃ m, k = m + 1 := ⟨k - 1, by omega⟩
    simp only [spec_l02Octave.l0, impl_Ratio_octave.l0]
    rw [wr (n := 2 * y) (by omega)]
    by_cases c : x ≥ 2 * y
    · simp only [if_pos c]
      rw [wr (n := y * 2) (by omega), wr (n := z + 1) (by omega)]
      exact ih k x (y * 2) (z + 1) (by omega) h2 h3 (by omega) (by omega) (by omega) (by omega) (by omega)
    · simp only [if_neg c]
      exact oct_l1 (1000000) k x y z (by omega) h2 (by omega) h5 (by omega) (by omega) (by omega)
theorem octave_eq (x y : Int) (hx : 1 ≤ x ∧ x ≤ 1000000) (hy : 1 ≤ y ∧ y ≤ 1000000) (k : Nat) (hk : 3000000 < k) :
    ∃ r1 r2 r3, spec_l02Octave.f k x y = some (r1, r2, r3) ∧ impl_Ratio_octave.f k x y = some (r1, r2, r3) ∧ r2 ≤ r1 ∧ r1 < 2 * r2 ∧ 1 ≤ r2 ∧ r2 ≤ 1000000 ∧ -4000000 ≤ r3 ∧ r3 ≤ 4000000 := by
  unfold spec_l02Octave.f impl_Ratio_octave.f
  exact oct_l0 1000000 k x y 0 (by omega) hx.1 hx.2 hy.1 hy.2 (by omega) (by omega) (by omega)

theorem FnExactOctaveOf : laws_FnExactOctaveOf.Pure := by
  intro a b _ _
  obtain ⟨K, hK⟩ : ∃ K : Nat, K = 10000000000000 := ⟨_, rfl⟩
  refine ⟨K, ?_⟩
  unfold laws_FnExactOctaveOf.f spec_OctaveOf.f impl_OctaveOf.f laws_eqRatio.f laws_toRatio.f
  simp only [Option.bind_some]
  rw [l02Ok_eq K a b (by omega), ValidRatio_eq K a b (by omega)]
  simp only [Option.bind_some]
  by_cases h1 : RatOk a b
  · obtain ⟨r1, r2, r3, e1, e2, h2, h3, h4, h5, _, _⟩ := octave_eq a b h1.1 h1.2.1 K (by omega)
    simp only [decide_eq_true h1, if_true, e1, e2, Option.bind_some]
    rw [l02Done_eq K r1 r2 (by omega) (by omega) (by omega) (by omega), reduced_eq K r1 r2 (by omega) (by omega) (by omega)]
    simp only [Option.bind_some]
    by_cases h : (redR r1 r2).2.2 = 0
    · simp [h]
    · simp [h]
  · simp [h1]

end Go.Proofs.Ytojmkelgbcnfmaa.Pure
