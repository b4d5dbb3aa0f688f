/- Proved: the plain statement of the law FnExactBestRatio: the program's function and the reference's give the same answer. Conditions: none beyond the statement's own. -/
import Derived.Test.YtojmkelgbcnfmaaDoorPFnExactBestRatiox4
namespace Go.Proofs.YtojmkelgbcnfmaaDoor.Pure
open Go.RowKit Go.Proofs.YtojmkelgbcnfmaaDoor.PFnExactBestRatio Go.Proofs.YtojmkelgbcnfmaaDoorW.PrintWords Go.Proofs.YtojmkelgbcnfmaaDoorW.PrintLast
set_option linter.unusedVariables false
set_option linter.unusedSimpArgs false

theorem wr {n : Int} (h : -9223372036854775808 ≤ n ∧ n ≤ 9223372036854775807) : wrap64 n = n := by unfold wrap64; omega

theorem oct_l1 (d : Nat) : ∀ (k : Nat) (x y z : Int), y - x ≤ d → 1 ≤ x → x < 2 * y → y ≤ 1000000 → -4000000 + d ≤ z → z ≤ 4000000 → d < k →
    ∃ r1 r2 r3, spec_l02Octave.l1 k x y z = some (r1, r2, r3) ∧ impl_Ratio_octave.l1 k x y z = some (r1, r2, r3) ∧ r2 ≤ r1 ∧ r1 < 2 * r2 ∧ 1 ≤ r2 ∧ r2 ≤ 1000000 ∧ -4000000 ≤ r3 ∧ r3 ≤ 4000000 := by
  induction d with
  | zero =>
    intro k x y z h1 h2 h3 h4 h5 h6 hk
    obtain ⟨k, rfl⟩ : ∃ m, k = m + 1 := ⟨k - 1, by omega⟩
    have c : ¬ x < y := by omega
    simp only [spec_l02Octave.l1, impl_Ratio_octave.l1, if_neg c]
    exact ⟨x, y, z, rfl, rfl, by omega, by omega, by omega, by omega, by omega, by omega⟩
  | succ d ih =>
    intro k x y z h1 h2 h3 h4 h5 h6 hk
    obtain ⟨k, rfl⟩ : ∃ m, k = m + 1 := ⟨k - 1, by omega⟩
    simp only [spec_l02Octave.l1, impl_Ratio_octave.l1]
    by_cases c : x < y
    · simp only [if_pos c]
      rw [wr (n := x * 2) (by omega), wr (n := z - 1) (by omega)]
      exact ih k (x * 2) y (z - 1) (by omega) (by omega) (by omega) h4 (by omega) (by omega) (by omega)
    · simp only [if_neg c]
      exact ⟨x, y, z, rfl, rfl, by omega, by omega, by omega, by omega, by omega, by omega⟩
theorem oct_l0 (d : Nat) : ∀ (k : Nat) (x y z : Int), x - y ≤ d → 1 ≤ x → x ≤ 1000000 → 1 ≤ y → y ≤ 1000000 → 0 ≤ z → z + d ≤ 2000000 → d + 1000002 < k →
    ∃ r1 r2 r3, spec_l02Octave.l0 k x y z = some (r1, r2, r3) ∧ impl_Ratio_octave.l0 k x y z = some (r1, r2, r3) ∧ r2 ≤ r1 ∧ r1 < 2 * r2 ∧ 1 ≤ r2 ∧ r2 ≤ 1000000 ∧ -4000000 ≤ r3 ∧ r3 ≤ 4000000 := by
  induction d with
  | zero =>
    intro k x y z h1 h2 h3 h4 h5 h6 h7 hk
    obtain ⟨k, rfl⟩ : ∃ m, k = m + 1 := ⟨k - 1, by omega⟩
    simp only [spec_l02Octave.l0, impl_Ratio_octave.l0]
    rw [wr (n := 2 * y) (by omega)]
    have c : ¬ x ≥ 2 * y := by omega
    simp only [if_neg c]
    exact oct_l1 (1000000) k x y z (by omega) h2 (by omega) h5 (by omega) (by omega) (by omega)
  | succ d ih =>
    intro k x y z h1 h2 h3 h4 h5 h6 h7 hk
    obtain ⟨k, rfl⟩ : ∃ m, k = m + 1 := ⟨k - 1, by omega⟩
    simp only [spec_l02Octave.l0, impl_Ratio_octave.l0]
    rw [wr (n := 2 * y) (by omega)]
    by_cases c : x ≥ 2 * y
    · simp only [if_pos c]
      rw [wr (n := y * 2) (by omega), wr (n := z + 1) (by omega)]
      exact ih k x (y * 2) (z + 1) (by omega) h2 h3 (by omega) (by omega) (by omega) (by omega) (by omega)
    · simp only [if_neg c]
      exact oct_l1 (1000000) k x y z (by omega) h2 (by omega) h5 (by omega) (by omega) (by omega)
theorem octave_eq (x y : Int) (hx : 1 ≤ x ∧ x ≤ 1000000) (hy : 1 ≤ y ∧ y ≤ 1000000) (k : Nat) (hk : 3000000 < k) :
    ∃ r1 r2 r3, spec_l02Octave.f k x y = some (r1, r2, r3) ∧ impl_Ratio_octave.f k x y = some (r1, r2, r3) ∧ r2 ≤ r1 ∧ r1 < 2 * r2 ∧ 1 ≤ r2 ∧ r2 ≤ 1000000 ∧ -4000000 ≤ r3 ∧ r3 ≤ 4000000 := by
  unfold spec_l02Octave.f impl_Ratio_octave.f
  exact oct_l0 1000000 k x y 0 (by omega) hx.1 hx.2 hy.1 hy.2 (by omega) (by omega) (by omega)

theorem div_core (A B : Int) (hA : 0 ≤ A) (hB : 0 < B) : (2 * A + B) / (2 * B) = if A % B ≥ B - A % B then A / B + 1 else A / B := by
  have e : B * (A / B) + A % B = A := Int.mul_ediv_add_emod A B
  have h0 : 0 ≤ A % B := Int.emod_nonneg A (by omega)
  have h1 : A % B < B := Int.emod_lt_of_pos A hB
  generalize A % B = r at *
  generalize A / B = q at *
  split
  · rw [show 2 * A + B = (2 * r - B) + (2 * B) * (q + 1) by rw [← e, Int.mul_add, Int.mul_add]; rw [Int.mul_assoc 2 B q]; omega,
      Int.add_mul_ediv_left _ _ (by omega), Int.ediv_eq_zero_of_lt (by omega) (by omega)]; omega
  · rw [show 2 * A + B = (2 * r + B) + (2 * B) * q by rw [← e, Int.mul_add]; rw [Int.mul_assoc 2 B q]; omega,
      Int.add_mul_ediv_left _ _ (by omega), Int.ediv_eq_zero_of_lt (by omega) (by omega)]; omega

/-- The nearest quotient, halves away from 0. -/
def divR (a b : Int) : Int :=
  if b < 0 then (if a > 0 then -((2 * a + -b) / (2 * -b)) else (2 * -a + -b) / (2 * -b))
  else (if a < 0 then -((2 * -a + b) / (2 * b)) else (2 * a + b) / (2 * b))

theorem quot_bound (A B : Int) (hA : 0 ≤ A) (hB : 0 < B) : 0 ≤ (2 * A + B) / (2 * B) ∧ (2 * A + B) / (2 * B) ≤ 2 * A + B :=
  ⟨Int.ediv_nonneg (by omega) (by omega), Int.ediv_le_self _ (by omega)⟩

theorem ediv_le_self' (A B : Int) (hA : 0 ≤ A) (hB : 0 < B) : 0 ≤ A / B ∧ A / B ≤ A :=
  ⟨Int.ediv_nonneg hA (by omega), Int.ediv_le_self _ hA⟩

theorem l01Div_eq (a b : Int) (ha : -1000000000000000000 ≤ a ∧ a ≤ 1000000000000000000) (hb : -1000000000000000000 ≤ b ∧ b ≤ 1000000000000000000) (h0 : b ≠ 0) :
    spec_l01Div.f a b = some (divR a b) := by
  unfold spec_l01Div.f divR
  have w1 : wrap64 (-a) = -a := wr (by omega)
  have w2 : wrap64 (-b) = -b := wr (by omega)
  rw [w1, w2]
  have w3 : wrap64 (2 * -a) = 2 * -a := wr (by omega)
  have w4 : wrap64 (2 * -b) = 2 * -b := wr (by omega)
  have w5 : wrap64 (2 * a) = 2 * a := wr (by omega)
  have w6 : wrap64 (2 * b) = 2 * b := wr (by omega)
  rw [w3, w4, w5, w6]
  by_cases c : b < 0
  · rw [if_pos c, if_pos c]
    by_cases d : a > 0
    · rw [if_pos (show -a < 0 by omega), if_neg (by omega), if_pos d]
      have hq := quot_bound a (-b) (by omega) (by omega)
      rw [show -b - 2 * -a = 2 * a + -b by omega, wr (n := 2 * a + -b) (by omega), Int.tdiv_eq_ediv_of_nonneg (by omega), wr (n := (2 * a + -b) / (2 * -b)) (by omega), wr (by omega)]
    · rw [if_neg (show ¬ -a < 0 by omega), if_neg (by omega), if_neg d]
      have hq := quot_bound (-a) (-b) (by omega) (by omega)
      rw [wr (n := 2 * -a + -b) (by omega), Int.tdiv_eq_ediv_of_nonneg (by omega), wr (by omega)]
  · rw [if_neg c, if_neg c]
    by_cases d : a < 0
    · rw [if_pos d, if_neg (by omega), if_pos d]
      have hq := quot_bound (-a) b (by omega) (by omega)
      rw [show b - 2 * a = 2 * -a + b by omega, wr (n := 2 * -a + b) (by omega), Int.tdiv_eq_ediv_of_nonneg (by omega), wr (n := (2 * -a + b) / (2 * b)) (by omega), wr (by omega)]
    · rw [if_neg d, if_neg (by omega), if_neg d]
      have hq := quot_bound a b (by omega) (by omega)
      rw [wr (n := 2 * a + b) (by omega), Int.tdiv_eq_ediv_of_nonneg (by omega), wr (by omega)]

theorem abs_pos (a : Int) (h : 0 ≤ a ∧ a ≤ 9000000000000000000) : impl_abs.f a = some a := by
  unfold impl_abs.f mx
  rw [wr (n := -a) (by omega)]
  rw [if_neg (by omega)]
theorem abs_neg (a : Int) (h : 0 ≤ a ∧ a ≤ 9000000000000000000) : impl_abs.f (-a) = some a := by
  unfold impl_abs.f mx
  rw [wr (n := - -a) (by omega)]
  split
  · congr 1; omega
  · congr 1; omega

theorem divRound_eq (a b : Int) (ha : -1000000000000000000 ≤ a ∧ a ≤ 1000000000000000000) (hb : -1000000000000000000 ≤ b ∧ b ≤ 1000000000000000000) (h0 : b ≠ 0) :
    impl_divRound.f a b = some (divR a b) := by
  unfold impl_divRound.f divR
  rw [if_neg h0]
  have key : ∀ A B : Int, 0 ≤ A → 0 < B → A ≤ 1000000000000000000 → B ≤ 1000000000000000000 →
      (0 ≤ A % B ∧ A % B < B ∧ wrap64 (B - A % B) = B - A % B ∧ 0 ≤ A / B ∧ A / B ≤ A) := by
    intro A B hA hB h1 h2
    have e0 := Int.emod_nonneg A (show B ≠ 0 by omega)
    have e1 := Int.emod_lt_of_pos A hB
    have e2 := ediv_le_self' A B hA hB
    exact ⟨e0, e1, wr (by omega), e2.1, e2.2⟩
  by_cases c : b < 0
  · rw [if_pos c]
    by_cases d : a > 0
    · obtain ⟨k0, k1, k2, k3, k4⟩ := key a (-b) (by omega) (by omega) (by omega) (by omega)
      have t1 : Int.tmod a b = a % -b := by rw [← Int.tmod_neg, Int.tmod_eq_emod_of_nonneg (by omega)]
      have t2 : Int.tdiv a b = -(a / -b) := by rw [← Int.tdiv_eq_ediv_of_nonneg (by omega), Int.tdiv_neg, Int.neg_neg]
      rw [t1, t2, if_pos d, abs_pos (a % -b) (by omega), Option.bind_some, show b = - -b by omega, abs_neg (-b) (by omega), Option.bind_some]
      simp only [Int.neg_neg]
      rw [k2, div_core a (-b) (by omega) (by omega)]
      have s1 : decide (a < 0) = false := decide_eq_false (by omega)
      have s2 : decide (b < 0) = true := decide_eq_true (by omega)
      rw [s1, s2]
      split
      · rw [if_neg (by decide), wr (n := -(a / -b)) (by omega), wr (by omega)]; congr 1; omega
      · rw [wr (by omega)]
    · obtain ⟨k0, k1, k2, k3, k4⟩ := key (-a) (-b) (by omega) (by omega) (by omega) (by omega)
      have t1 : Int.tmod a b = -(-a % -b) := by
        rw [← Int.tmod_eq_emod_of_nonneg (by omega), Int.tmod_neg, Int.neg_tmod, Int.neg_neg]
      have t2 : Int.tdiv a b = -a / -b := by rw [← Int.tdiv_eq_ediv_of_nonneg (by omega), Int.tdiv_neg, Int.neg_tdiv, Int.neg_neg]
      rw [t1, t2, if_neg d, abs_neg (-a % -b) (by omega), Option.bind_some, show b = - -b by omega, abs_neg (-b) (by omega), Option.bind_some]
      simp only [Int.neg_neg]
      rw [k2, div_core (-a) (-b) (by omega) (by omega)]
      split
      · rename_i hh
        have ha0 : a < 0 := by
          by_cases e : a = 0
          · subst e; simp at hh; omega
          · omega
        have s1 : decide (a < 0) = true := decide_eq_true (by omega)
        have s2 : decide (b < 0) = true := decide_eq_true (by omega)
        rw [s1, s2, if_pos (by decide), wr (n := -a / -b) (by omega), wr (by omega)]
      · rw [wr (by omega)]
  · rw [if_neg c]
    by_cases d : a < 0
    · obtain ⟨k0, k1, k2, k3, k4⟩ := key (-a) b (by omega) (by omega) (by omega) (by omega)
      have t1 : Int.tmod a b = -(-a % b) := by
        rw [← Int.tmod_eq_emod_of_nonneg (by omega), Int.neg_tmod, Int.neg_neg]
      have t2 : Int.tdiv a b = -(-a / b) := by rw [← Int.tdiv_eq_ediv_of_nonneg (by omega), Int.neg_tdiv, Int.neg_neg]
      rw [t1, t2, if_pos d, abs_neg (-a % b) (by omega), Option.bind_some, abs_pos b (by omega), Option.bind_some]
      rw [k2, div_core (-a) b (by omega) (by omega)]
      have s1 : decide (a < 0) = true := decide_eq_true (by omega)
      have s2 : decide (b < 0) = false := decide_eq_false (by omega)
      rw [s1, s2]
      split
      · rw [if_neg (by decide), wr (n := -(-a / b)) (by omega), wr (by omega)]; congr 1; omega
      · rw [wr (by omega)]
    · obtain ⟨k0, k1, k2, k3, k4⟩ := key a b (by omega) (by omega) (by omega) (by omega)
      rw [Int.tmod_eq_emod_of_nonneg (by omega), Int.tdiv_eq_ediv_of_nonneg (by omega), if_neg d, abs_pos (a % b) (by omega), Option.bind_some, abs_pos b (by omega), Option.bind_some]
      rw [k2, div_core a b (by omega) (by omega)]
      have s1 : decide (a < 0) = false := decide_eq_false (by omega)
      have s2 : decide (b < 0) = false := decide_eq_false (by omega)
      rw [s1, s2]
      split
      · rw [if_pos (by decide), wr (n := a / b) (by omega), wr (by omega)]
      · rw [wr (by omega)]

/-- The octave of a ratio: what both tell, for all rounds from some on. -/
theorem octave_all (x y : Int) (hx : 1 ≤ x ∧ x ≤ 1000000) (hy : 1 ≤ y ∧ y ≤ 1000000) :
    ∃ r1 r2 r3, (∀ k, 3000001 ≤ k → spec_l02Octave.f k x y = some (r1, r2, r3) ∧ impl_Ratio_octave.f k x y = some (r1, r2, r3)) ∧ r2 ≤ r1 ∧ r1 < 2 * r2 ∧ 1 ≤ r2 ∧ r2 ≤ 1000000 ∧ -4000000 ≤ r3 ∧ r3 ≤ 4000000 := by
  obtain ⟨r1, r2, r3, e1, e2, h1, h2, h3, h4, h5, h6⟩ := octave_eq x y hx hy 3000001 (by omega)
  refine ⟨r1, r2, r3, fun k hk => ?_, h1, h2, h3, h4, h5, h6⟩
  obtain ⟨j, rfl⟩ : ∃ j, k = 3000001 + j := ⟨k - 3000001, by omega⟩
  clear hk
  induction j with
  | zero => exact ⟨e1, e2⟩
  | succ j ih => exact ⟨spec_l02Octave.mono _ _ _ _ ih.1, impl_Ratio_octave.mono _ _ _ _ ih.2⟩
theorem tab_facts : ∀ i : Nat, i < 32 → 0 ≤ rd centsTab i ∧ rd centsTab i ≤ rd centsTab ((i : Int) + 1) ∧ rd centsTab ((i : Int) + 1) ≤ 120000 := by decide +kernel
theorem divR_bound (a b : Int) (ha : 0 ≤ a) (hb : 0 < b) : 0 ≤ divR a b ∧ divR a b ≤ 2 * a + b := by
  unfold divR
  rw [if_neg (by omega), if_neg (by omega)]
  exact quot_bound a b ha hb
theorem k1 (t u m : Int) (t0 : 0 ≤ t) (t1 : t ≤ u) (t2 : u ≤ 120000) (m0 : 0 ≤ m) (m1 : m ≤ 1000000) : 0 ≤ (u - t) * m ∧ (u - t) * m ≤ 120000000000 := by
  have := Int.mul_le_mul (show u - t ≤ 120000 by omega) m1 m0 (by omega)
  exact ⟨Int.mul_nonneg (by omega) m0, by omega⟩
theorem k2 (t u : Int) (t0 : 0 ≤ t) (t1 : t ≤ u) (t2 : u ≤ 120000) : wrap64 (u - t) = u - t := wr (by omega)
theorem k3 (p : Int) (p0 : 0 ≤ p) (p1 : p ≤ 120000000000) : wrap64 p = p := wr (by omega)
theorem k4 (o t u : Int) (h5 : -4000000 ≤ o) (h6 : o ≤ 4000000) (t0 : 0 ≤ t) (t1 : t ≤ u) (t2 : u ≤ 120000) : wrap64 (120000 * o + t) = 120000 * o + t := wr (by omega)
theorem k5 (o t u r p d : Int) (h5 : -4000000 ≤ o) (h6 : o ≤ 4000000) (t0 : 0 ≤ t) (t1 : t ≤ u) (t2 : u ≤ 120000) (p1 : p ≤ 120000000000) (hd : d ≤ 1000000) (r0 : 0 ≤ r ∧ r ≤ 2 * p + d) : wrap64 (120000 * o + t + r) = 120000 * o + t + r := wr (by omega)
theorem k6 (o t u r p d : Int) (h5 : -4000000 ≤ o) (h6 : o ≤ 4000000) (t0 : 0 ≤ t) (t1 : t ≤ u) (t2 : u ≤ 120000) (p1 : p ≤ 120000000000) (hd : d ≤ 1000000) (r0 : 0 ≤ r ∧ r ≤ 2 * p + d) : -1000000000000 ≤ 120000 * o + t + r ∧ 120000 * o + t + r ≤ 1000000000000 := by omega
theorem k7 (p : Int) (p0 : 0 ≤ p) (p1 : p ≤ 120000000000) : -1000000000000000000 ≤ p ∧ p ≤ 1000000000000000000 := by omega
theorem k8 (i : Nat) (h : i < 32) : (0 ≤ (i : Int) ∧ (i : Int) < 32) ∧ (i : Int) < 33 ∧ 0 ≤ (i : Int) + 1 ∧ (i : Int) + 1 < 33 := by omega
/-- The cents of a ratio between 1 and 2 (and the octaves beside it). -/
def centsR (n d o : Int) : Int := 120000 * o + rd centsTab (32 * (n - d) / d) + divR ((rd centsTab (32 * (n - d) / d + 1) - rd centsTab (32 * (n - d) / d)) * (32 * (n - d) % d)) d
theorem cents_facts (n d : Int) (h1 : d ≤ n) (h2 : n < 2 * d) (h3 : 1 ≤ d) (h4 : d ≤ 1000000) :
    ∃ (i : Nat) (m : Int), i < 32 ∧ 32 * (n - d) / d = i ∧ 32 * (n - d) % d = m ∧ 0 ≤ m ∧ m < d ∧ 32 * (n - d) - (i : Int) * d = m ∧
      0 ≤ (rd centsTab ((i : Int) + 1) - rd centsTab i) * m ∧ (rd centsTab ((i : Int) + 1) - rd centsTab i) * m ≤ 120000000000 ∧ 0 ≤ (i : Int) * d ∧ (i : Int) * d ≤ 32000000 := by
  have q0 : 0 ≤ 32 * (n - d) / d := Int.ediv_nonneg (by omega) (by omega)
  have q1 : 32 * (n - d) / d < 32 := Int.ediv_lt_of_lt_mul (by omega) (by omega)
  have e : d * (32 * (n - d) / d) + 32 * (n - d) % d = 32 * (n - d) := Int.mul_ediv_add_emod _ _
  have m0 : 0 ≤ 32 * (n - d) % d := Int.emod_nonneg _ (by omega)
  have m1 : 32 * (n - d) % d < d := Int.emod_lt_of_pos _ (by omega)
  generalize 32 * (n - d) % d = m at *
  obtain ⟨i, hi⟩ : ∃ i : Nat, 32 * (n - d) / d = i := ⟨(32 * (n - d) / d).toNat, by omega⟩
  rw [hi] at e q0 q1
  obtain ⟨t0, t1, t2⟩ := tab_facts i (by omega)
  have p0 : 0 ≤ (i : Int) * d := Int.mul_nonneg (by omega) (by omega)
  rw [Int.mul_comm] at e
  have kk := k1 (rd centsTab i) (rd centsTab ((i : Int) + 1)) m t0 t1 t2 m0 (by clear t0 t1 t2; omega)
  clear t0 t1 t2
  exact ⟨i, m, by clear kk; omega, hi, rfl, m0, m1, by clear kk; omega, kk.1, kk.2, p0, by clear kk; omega⟩
theorem centsR_bound (n d o : Int) (h1 : d ≤ n) (h2 : n < 2 * d) (h3 : 1 ≤ d) (h4 : d ≤ 1000000) (h5 : -4000000 ≤ o) (h6 : o ≤ 4000000) : -1000000000000 ≤ centsR n d o ∧ centsR n d o ≤ 1000000000000 := by
  obtain ⟨i, m, hi, e1, e2, m0, m1, _, p0, p1, _, _⟩ := cents_facts n d h1 h2 h3 h4
  obtain ⟨t0, t1, t2⟩ := tab_facts i hi
  unfold centsR
  rw [e1, e2]
  exact k6 _ _ _ _ _ d h5 h6 t0 t1 t2 p1 h4 (divR_bound _ d p0 (by clear t0 t1 t2 p0 p1; omega))
theorem impl_at_eq (n d o : Int) (h1 : d ≤ n) (h2 : n < 2 * d) (h3 : 1 ≤ d) (h4 : d ≤ 1000000) (h5 : -4000000 ≤ o) (h6 : o ≤ 4000000) : impl_Ratio_cents.at n d o = some (centsR n d o) := by
  obtain ⟨i, m, hi, e1, e2, m0, m1, e3, p0, p1, p2, p3⟩ := cents_facts n d h1 h2 h3 h4
  obtain ⟨t0, t1, t2⟩ := tab_facts i hi
  have hb := divR_bound _ d p0 (by clear t0 t1 t2 p0 p1; omega)
  have c0 : ¬ d = 0 := by clear t0 t1 t2 p0 p1 hb; omega
  have b0 : -1000000000000000000 ≤ d ∧ d ≤ 1000000000000000000 := by clear t0 t1 t2 p0 p1 hb; omega
  have w5 := k2 _ _ t0 t1 t2
  have w8 := k3 _ p0 p1
  have w10 := k4 o _ _ h5 h6 t0 t1 t2
  have w9 : wrap64 (120000 * o) = 120000 * o := wr (by clear t0 t1 t2 p0 p1 hb w5 w8 w10; omega)
  have w11 := k5 o _ _ _ _ d h5 h6 t0 t1 t2 p1 h4 hb
  have w12 := k7 _ p0 p1
  clear t0 t1 t2 p0 p1 hb
  have w1 : wrap64 (n - d) = n - d := wr (by clear w5 w8 w10 w11 w12; omega)
  have w2 : wrap64 (32 * (n - d)) = 32 * (n - d) := wr (by clear w5 w8 w10 w11 w12; omega)
  have w3 : wrap64 (Int.tdiv (32 * (n - d)) d) = i := by clear w5 w8 w10 w11 w12; rw [Int.tdiv_eq_ediv_of_nonneg (by omega), e1]; exact wr (by omega)
  have w4 : wrap64 ((i : Int) + 1) = (i : Int) + 1 := wr (by clear w5 w8 w10 w11 w12; omega)
  have w6 : wrap64 ((i : Int) * d) = (i : Int) * d := wr (by clear w5 w8 w10 w11 w12; omega)
  have w7 : wrap64 m = m := wr (by clear w5 w8 w10 w11 w12; omega)
  have c1 := (k8 i hi).1
  unfold impl_Ratio_cents.at centsR
  rw [if_neg c0, w1, w2, w3, if_pos c1, w4, w5, w6, e3, w7, w8, divRound_eq _ d w12 b0 c0, Option.bind_some, w9, w10, e1, e2]
  rw [w11]
theorem spec_at_eq (k : Nat) (a b n d o : Int) (ho : spec_l02Octave.f k a b = some (n, d, o)) (h1 : d ≤ n) (h2 : n < 2 * d) (h3 : 1 ≤ d) (h4 : d ≤ 1000000) (h5 : -4000000 ≤ o) (h6 : o ≤ 4000000) : spec_l02Cents.f k a b = some (centsR n d o) := by
  obtain ⟨i, m, hi, e1, e2, m0, m1, e3, p0, p1, p2, p3⟩ := cents_facts n d h1 h2 h3 h4
  obtain ⟨t0, t1, t2⟩ := tab_facts i hi
  have hb := divR_bound _ d p0 (by clear t0 t1 t2 p0 p1; omega)
  have c0 : ¬ d = 0 := by clear t0 t1 t2 p0 p1 hb; omega
  have b0 : -1000000000000000000 ≤ d ∧ d ≤ 1000000000000000000 := by clear t0 t1 t2 p0 p1 hb; omega
  have w5 := k2 _ _ t0 t1 t2
  have w8 := k3 _ p0 p1
  have w10 := k4 o _ _ h5 h6 t0 t1 t2
  have w9 : wrap64 (120000 * o) = 120000 * o := wr (by clear t0 t1 t2 p0 p1 hb w5 w8 w10; omega)
  have w11 := k5 o _ _ _ _ d h5 h6 t0 t1 t2 p1 h4 hb
  have w12 := k7 _ p0 p1
  clear t0 t1 t2 p0 p1 hb
  have w1 : wrap64 (n - d) = n - d := wr (by clear w5 w8 w10 w11 w12; omega)
  have w2 : wrap64 (32 * (n - d)) = 32 * (n - d) := wr (by clear w5 w8 w10 w11 w12; omega)
  have w3 : wrap64 (Int.tdiv (32 * (n - d)) d) = i := by clear w5 w8 w10 w11 w12; rw [Int.tdiv_eq_ediv_of_nonneg (by omega), e1]; exact wr (by omega)
  have w4 : wrap64 ((i : Int) + 1) = (i : Int) + 1 := wr (by clear w5 w8 w10 w11 w12; omega)
  have w6 : wrap64 ((i : Int) * d) = (i : Int) * d := wr (by clear w5 w8 w10 w11 w12; omega)
  have w7 : wrap64 m = m := wr (by clear w5 w8 w10 w11 w12; omega)
  have l33 : (centsTab.length : Int) = 33 := by rfl
  obtain ⟨⟨c1, _⟩, c2, c3, c4⟩ := k8 i hi
  have ht : spec_l02Table.f = some centsTab := rfl
  unfold spec_l02Cents.f centsR
  rw [ho, Option.bind_some, ht, Option.bind_some]
  dsimp only
  rw [if_neg c0, w1, w2, w3, l33, if_pos c1, if_pos c2, w4, if_pos c3, if_pos c4, w5, w6, e3, w7, w8, l01Div_eq _ d w12 b0 c0, Option.bind_some, w9, w10, e1, e2]
  rw [w11]
/-- The cents of a valid ratio: both tell the same, for all rounds from some on. -/
theorem cents_eq (a b : Int) (ha : 1 ≤ a ∧ a ≤ 1000000) (hb : 1 ≤ b ∧ b ≤ 1000000) :
    ∃ c, -1000000000000 ≤ c ∧ c ≤ 1000000000000 ∧ ∀ k, 3000001 ≤ k → spec_l02Cents.f k a b = some c ∧ impl_Ratio_cents.f k a b = some c := by
  obtain ⟨n, d, o, h, h1, h2, h3, h4, h5, h6⟩ := octave_all a b ha hb
  obtain ⟨c1, c2⟩ := centsR_bound n d o h1 h2 h3 h4 h5 h6
  refine ⟨centsR n d o, c1, c2, fun k hk => ⟨spec_at_eq k a b n d o (h k hk).1 h1 h2 h3 h4 h5 h6, ?_⟩⟩
  unfold impl_Ratio_cents.f
  rw [(h k hk).2, Option.bind_some]
  exact impl_at_eq n d o h1 h2 h3 h4 h5 h6

theorem l00In_eq (a b c : Int) : spec_l00In.f a b c = some (decide (b ≤ a ∧ a ≤ c)) := by
  unfold spec_l00In.f
  by_cases h : a ≥ b <;> simp [h]

theorem within_eq (a b c : Int) : impl_within.f a b c = some (decide (b ≤ a ∧ a ≤ c)) := by
  unfold impl_within.f
  by_cases h : a ≥ b <;> simp [h]

theorem gcd_step (a b : Nat) : Nat.gcd b (a % b) = Nat.gcd a b := by
  rw [Nat.gcd_comm a b, Nat.gcd_rec b a, Nat.gcd_comm]
theorem l02Gcd_l0 (d : Nat) : ∀ (k a b : Nat), b ≤ d → d < k → spec_l02Gcd.l0 k (a : Int) (b : Int) = some (Nat.gcd a b : Int) := by
  induction d with
  | zero =>
    intro k a b hb hk
    obtain ⟨k, rfl⟩ : ∃ m, k = m + 1 := ⟨k - 1, by omega⟩
    obtain rfl : b = 0 := by omega
    simp [spec_l02Gcd.l0]
  | succ d ih =>
    intro k a b hb hk
    obtain ⟨k, rfl⟩ : ∃ m, k = m + 1 := ⟨k - 1, by omega⟩
    simp only [spec_l02Gcd.l0]
    by_cases h : (b : Int) = 0
    · rw [if_pos h]; obtain rfl : b = 0 := by omega
      simp
    · rw [if_neg h]
      have e : Int.tmod (a : Int) b = ((a % b : Nat) : Int) := rfl
      have hlt := Nat.mod_lt a (show b > 0 by omega)
      rw [e, ih k b (a % b) (by omega) (by omega), gcd_step]
theorem commonDivisor_l0 (d : Nat) : ∀ (k a b : Nat), b ≤ d → d < k → impl_commonDivisor.l0 k (a : Int) (b : Int) = some (Nat.gcd a b : Int) := by
  induction d with
  | zero =>
    intro k a b hb hk
    obtain ⟨k, rfl⟩ : ∃ m, k = m + 1 := ⟨k - 1, by omega⟩
    obtain rfl : b = 0 := by omega
    simp [impl_commonDivisor.l0]
  | succ d ih =>
    intro k a b hb hk
    obtain ⟨k, rfl⟩ : ∃ m, k = m + 1 := ⟨k - 1, by omega⟩
    simp only [impl_commonDivisor.l0]
    by_cases h : (b : Int) = 0
    · rw [if_pos h]; obtain rfl : b = 0 := by omega
      simp
    · rw [if_neg h]
      have e : Int.tmod (a : Int) b = ((a % b : Nat) : Int) := rfl
      have hlt := Nat.mod_lt a (show b > 0 by omega)
      rw [e, ih k b (a % b) (by omega) (by omega), gcd_step]
theorem l02Gcd_eq (k : Nat) (a b : Int) (ha : 0 ≤ a) (hb : 0 ≤ b) (hk : b.toNat < k) : spec_l02Gcd.f k a b = some (Nat.gcd a.toNat b.toNat : Int) := by
  unfold spec_l02Gcd.f
  have := l02Gcd_l0 b.toNat k a.toNat b.toNat (Nat.le_refl _) hk
  rwa [show ((a.toNat : Nat) : Int) = a by omega, show ((b.toNat : Nat) : Int) = b by omega] at this
theorem commonDivisor_eq (k : Nat) (a b : Int) (ha : 0 ≤ a) (hb : 0 ≤ b) (hk : b.toNat < k) : impl_commonDivisor.f k a b = some (Nat.gcd a.toNat b.toNat : Int) := by
  unfold impl_commonDivisor.f
  have := commonDivisor_l0 b.toNat k a.toNat b.toNat (Nat.le_refl _) hk
  rwa [show ((a.toNat : Nat) : Int) = a by omega, show ((b.toNat : Nat) : Int) = b by omega] at this
/-- Two numbers that are a valid ratio. -/
def RatOk (x y : Int) : Prop := (1 ≤ x ∧ x ≤ 1000000) ∧ (1 ≤ y ∧ y ≤ 1000000) ∧ Nat.gcd x.toNat y.toNat = 1
instance ratOkDec (x y : Int) : Decidable (RatOk x y) := by unfold RatOk; infer_instance
theorem one_beq (n : Nat) : (((n : Int) == 1) : Bool) = decide (n = 1) := by
  rw [Bool.eq_iff_iff, beq_iff_eq, decide_eq_true_iff]; omega

theorem ValidRatio_eq (k : Nat) (x y : Int) (hk : 1000000 < k) : impl_ValidRatio.f k x y = some (decide (RatOk x y)) := by
  unfold impl_ValidRatio.f
  rw [within_eq, within_eq]
  simp only [Option.bind_some]
  by_cases h1 : 1 ≤ x ∧ x ≤ 1000000
  · by_cases h2 : 1 ≤ y ∧ y ≤ 1000000
    · rw [commonDivisor_eq k x y (by omega) (by omega) (by omega)]
      simp only [Option.bind_some, decide_eq_true h1, decide_eq_true h2, if_true]
      rw [one_beq]; congr 1; simp [RatOk, h1, h2]
    · simp [h1, h2, RatOk]
  · simp [h1, RatOk]

theorem dist_eq (c a : Int) (hc : -1000000000000 ≤ c ∧ c ≤ 1000000000000) (ha : 0 ≤ a ∧ a ≤ 120000) : ∃ d, spec_l00Max.f (wrap64 (c - a)) (wrap64 (a - c)) = some d ∧ impl_abs.f (wrap64 (c - a)) = some d := by
  unfold spec_l00Max.f impl_abs.f mx
  rw [wr (n := c - a) (by omega), wr (n := a - c) (by omega), wr (n := -(c - a)) (by omega)]
  by_cases h : c - a > a - c
  · refine ⟨c - a, by rw [if_pos h], ?_⟩
    congr 1; split <;> omega
  · refine ⟨a - c, by rw [if_neg h], ?_⟩
    congr 1; split <;> omega
theorem best_l0 (x0 : Int) (hx0 : 0 ≤ x0 ∧ x0 ≤ 120000) (x1 : Int) (h1 : x1 ≤ 64) (d : Nat) : ∀ den b p q : Int, x1 + 1 = den + d → 1 ≤ den →
    ∃ r, ∀ k, 4000000 + 200 * d < k → spec_BestRatio.l0 k x0 x1 b den p q = some r ∧ impl_BestRatio.l0 k x0 x1 b den p q = some r := by
  induction d with
  | zero =>
    intro den b p q hd h0
    refine ⟨(p, q, b, 0), fun k hk => ?_⟩
    obtain ⟨k, rfl⟩ : ∃ m, k = m + 1 := ⟨k - 1, by omega⟩
    have c : ¬ den ≤ x1 := by omega
    simp only [spec_BestRatio.l0, impl_BestRatio.l0]
    rw [if_neg c, if_neg c]; exact ⟨rfl, rfl⟩
  | succ d ih =>
    intro den b p q hd h0
    have inner : ∀ (e : Nat) (num b p q : Int), 2 * den + 1 = num + e → den ≤ num →
        ∃ r, ∀ k, 4000000 + 200 * d + e + 1 < k → spec_BestRatio.l1 k x0 x1 b den num p q = some r ∧ impl_BestRatio.l1 k x0 x1 b den num p q = some r := by
      intro e
      induction e with
      | zero =>
        intro num b p q he hn
        obtain ⟨r, hr⟩ := ih (den + 1) b p q (by omega) (by omega)
        refine ⟨r, fun k hk => ?_⟩
        obtain ⟨k, rfl⟩ : ∃ m, k = m + 1 := ⟨k - 1, by omega⟩
        have c : ¬ num ≤ 2 * den := by omega
        have w1 : wrap64 (2 * den) = 2 * den := wr (by omega)
        have w2 : wrap64 (den + 1) = den + 1 := wr (by omega)
        simp only [spec_BestRatio.l1, impl_BestRatio.l1, w1, w2]
        rw [if_neg c, if_neg c]; exact hr k (by omega)
      | succ e ihe =>
        intro num b p q he hn
        have c : num ≤ 2 * den := by omega
        have w1 : wrap64 (2 * den) = 2 * den := wr (by omega)
        have w2 : wrap64 (num + 1) = num + 1 := wr (by omega)
        have gg : ∀ k, 4000000 < k → spec_l02Gcd.f k num den = some (Nat.gcd num.toNat den.toNat : Int) := fun k hk => l02Gcd_eq k num den (by omega) (by omega) (by omega)
        have gv : ∀ k, 4000000 < k → impl_ValidRatio.f k num den = some (decide (RatOk num den)) := fun k hk => ValidRatio_eq k num den (by omega)
        have giff : RatOk num den ↔ ((Nat.gcd num.toNat den.toNat : Nat) : Int) = 1 := by
          unfold RatOk
          constructor
          · rintro ⟨_, _, h⟩; omega
          · intro h; exact ⟨by omega, by omega, by omega⟩
        by_cases hg : ((Nat.gcd num.toNat den.toNat : Nat) : Int) = 1
        · obtain ⟨cc, c1, c2, hc⟩ := cents_eq num den (by omega) (by omega)
          obtain ⟨dd, d1, d2⟩ := dist_eq cc x0 ⟨c1, c2⟩ hx0
          have hv : decide (RatOk num den) = true := decide_eq_true (giff.mpr hg)
          obtain ⟨r1, hr1⟩ := ihe (num + 1) dd num den (by omega) (by omega)
          obtain ⟨r2, hr2⟩ := ihe (num + 1) b p q (by omega) (by omega)
          by_cases q1 : b < 0
          · refine ⟨r1, fun k hk => ?_⟩
            obtain ⟨k, rfl⟩ : ∃ m, k = m + 1 := ⟨k - 1, by omega⟩
            simp only [spec_BestRatio.l1, impl_BestRatio.l1, w1, w2]
            rw [if_pos c, if_pos c, gg k (by omega), gv k (by omega), hv, Option.bind_some, Option.bind_some, if_pos hg, if_pos rfl, (hc k (by omega)).1, (hc k (by omega)).2, Option.bind_some, Option.bind_some, d1, d2, Option.bind_some, Option.bind_some, if_pos q1, if_pos q1]
            exact hr1 k (by omega)
          · by_cases q2 : dd < b
            · refine ⟨r1, fun k hk => ?_⟩
              obtain ⟨k, rfl⟩ : ∃ m, k = m + 1 := ⟨k - 1, by omega⟩
              simp only [spec_BestRatio.l1, impl_BestRatio.l1, w1, w2]
              rw [if_pos c, if_pos c, gg k (by omega), gv k (by omega), hv, Option.bind_some, Option.bind_some, if_pos hg, if_pos rfl, (hc k (by omega)).1, (hc k (by omega)).2, Option.bind_some, Option.bind_some, d1, d2, Option.bind_some, Option.bind_some, if_neg q1, if_neg q1, if_pos q2, if_pos q2]
              exact hr1 k (by omega)
            · refine ⟨r2, fun k hk => ?_⟩
              obtain ⟨k, rfl⟩ : ∃ m, k = m + 1 := ⟨k - 1, by omega⟩
              simp only [spec_BestRatio.l1, impl_BestRatio.l1, w1, w2]
              rw [if_pos c, if_pos c, gg k (by omega), gv k (by omega), hv, Option.bind_some, Option.bind_some, if_pos hg, if_pos rfl, (hc k (by omega)).1, (hc k (by omega)).2, Option.bind_some, Option.bind_some, d1, d2, Option.bind_some, Option.bind_some, if_neg q1, if_neg q1, if_neg q2, if_neg q2]
              exact hr2 k (by omega)
        · have hv : decide (RatOk num den) = false := decide_eq_false (fun h => hg (giff.mp h))
          obtain ⟨r2, hr2⟩ := ihe (num + 1) b p q (by omega) (by omega)
          refine ⟨r2, fun k hk => ?_⟩
          obtain ⟨k, rfl⟩ : ∃ m, k = m + 1 := ⟨k - 1, by omega⟩
          simp only [spec_BestRatio.l1, impl_BestRatio.l1, w1, w2]
          rw [if_pos c, if_pos c, gg k (by omega), gv k (by omega), hv, Option.bind_some, Option.bind_some, if_neg hg, if_neg (by simp)]
          exact hr2 k (by omega)
    obtain ⟨r, hr⟩ := inner (den + 1).toNat den b p q (by omega) (by omega)
    refine ⟨r, fun k hk => ?_⟩
    obtain ⟨k, rfl⟩ : ∃ m, k = m + 1 := ⟨k - 1, by omega⟩
    have c : den ≤ x1 := by omega
    simp only [spec_BestRatio.l0, impl_BestRatio.l0]
    rw [if_pos c, if_pos c]
    exact hr k (by omega)
theorem FnExactBestRatio : laws_FnExactBestRatio.Pure := by
  intro a b _ _
  refine ⟨5000000, ?_⟩
  have key : ∃ r, spec_BestRatio.f 5000000 a b = some r ∧ impl_BestRatio.f 5000000 a b = some r := by
    unfold spec_BestRatio.f impl_BestRatio.f
    rw [l00In_eq, l00In_eq, within_eq, within_eq]
    simp only [Option.bind_some]
    by_cases h1 : 0 ≤ a ∧ a ≤ 120000
    · by_cases h2 : 1 ≤ b ∧ b ≤ 64
      · obtain ⟨r, hr⟩ := best_l0 a h1 b h2.2 b.toNat 1 (-1) 0 0 (by omega) (by omega)
        refine ⟨r, ?_⟩
        rw [show (5000000 : Nat) = 4999999 + 1 from rfl]
        simp only [decide_eq_true h1, decide_eq_true h2, if_true, Bool.not_true, spec_BestRatio.j0, impl_BestRatio.j0, Bool.false_eq_true, if_false]
        exact hr 4999999 (by omega)
      · refine ⟨(0, 0, 0, 2), ?_⟩
        rw [show (5000000 : Nat) = 4999999 + 1 from rfl]
        simp [h1, h2, spec_BestRatio.j0, impl_BestRatio.j0]
    · refine ⟨(0, 0, 0, 2), ?_⟩
      rw [show (5000000 : Nat) = 4999999 + 1 from rfl]
      simp [h1, spec_BestRatio.j0, impl_BestRatio.j0]
  obtain ⟨⟨r1, r2, r3, r4⟩, e1, e2⟩ := key
  unfold laws_FnExactBestRatio.f laws_eqRatio.f
  rw [e1, e2]
  simp

end Go.Proofs.YtojmkelgbcnfmaaDoor.Pure
