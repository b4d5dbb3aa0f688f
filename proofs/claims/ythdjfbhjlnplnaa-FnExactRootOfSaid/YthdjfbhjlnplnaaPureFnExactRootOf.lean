/- Proved: the plain statement of the law FnExactRootOf: the program's function and the reference's give the same answer. Conditions: none beyond the statement's own. -/
import Derived.Test.YthdjfbhjlnplnaaPFnExactRootOfx1
namespace Go.Proofs.Ythdjfbhjlnplnaa.Pure
open Go.RowKit Go.Proofs.Ythdjfbhjlnplnaa.PFnExactRootOf Go.Proofs.YthdjfbhjlnplnaaW.PrintWords Go.Proofs.YthdjfbhjlnplnaaW.PrintLast
set_option linter.unusedVariables false
set_option linter.unusedSimpArgs false

theorem wr {n : Int} (h : -9223372036854775808 ≤ n ∧ n ≤ 9223372036854775807) : wrap64 n = n := by unfold wrap64; omega

def RootOk (n r : Int) : Prop := 0 ≤ r ∧ r ≤ 3037000499 ∧ (r = 0 ∨ r * r ≤ n) ∧ (r = 3037000499 ∨ n < (r + 1) * (r + 1))
theorem sq_bound (m : Int) (h0 : 0 ≤ m) (h1 : m ≤ 3037000499) : 0 ≤ m * m ∧ m * m ≤ 9223372030926249001 := by
  refine ⟨Int.mul_nonneg h0 h0, ?_⟩
  have := Int.mul_le_mul h1 h1 h0 (by omega)
  omega
theorem root_unique (n r q : Int) (hn : 0 ≤ n) (h : RootOk n r) (g : RootOk n q) : r = q := by
  have key : ∀ x y : Int, RootOk n x → RootOk n y → ¬ x < y := by
    intro x y hx hy hlt
    obtain ⟨x0, x1, _, x3⟩ := hx
    obtain ⟨y0, y1, y2, _⟩ := hy
    have h2 : y * y ≤ n := by rcases y2 with y2 | y2 <;> omega
    have h3 : n < (x + 1) * (x + 1) := by rcases x3 with x3 | x3 <;> omega
    have := Int.mul_le_mul (show x + 1 ≤ y by omega) (show x + 1 ≤ y by omega) (by omega) y0
    omega
  have := key r q h g
  have := key q r g h
  omega
theorem spec_root (n : Int) (d : Nat) : ∀ lo hi : Int, 0 ≤ lo → lo ≤ hi → hi ≤ 3037000499 → (hi - lo).toNat ≤ d → (lo = 0 ∨ lo * lo ≤ n) → (hi = 3037000499 ∨ n < (hi + 1) * (hi + 1)) →
    ∃ r, RootOk n r ∧ ∀ k, d < k → spec_l01Root.l0 k n lo hi = some r := by
  induction d with
  | zero =>
    intro lo hi h0 h1 h2 hd hl hh
    obtain rfl : lo = hi := by omega
    refine ⟨lo, ⟨h0, h2, hl, hh⟩, fun k hk => ?_⟩
    obtain ⟨k, rfl⟩ : ∃ m, k = m + 1 := ⟨k - 1, by omega⟩
    have e : ¬ lo < lo := by omega
    simp only [spec_l01Root.l0]; rw [if_neg e]
  | succ d ih =>
    intro lo hi h0 h1 h2 hd hl hh
    by_cases c : lo < hi
    · have hm : Int.tdiv (lo + hi + 1) 2 = (lo + hi + 1) / 2 := Int.tdiv_eq_ediv_of_nonneg (by omega)
      generalize hmid : (lo + hi + 1) / 2 = mid at *
      have m0 : lo + 1 ≤ mid := by omega
      have m1 : mid ≤ hi := by omega
      obtain ⟨s0, s1⟩ := sq_bound mid (by omega) (by omega)
      by_cases c2 : mid * mid ≤ n
      · obtain ⟨r, hr, h⟩ := ih mid hi (by omega) m1 h2 (by omega) (.inr c2) hh
        refine ⟨r, hr, fun k hk => ?_⟩
        obtain ⟨k, rfl⟩ : ∃ m, k = m + 1 := ⟨k - 1, by omega⟩
        simp only [spec_l01Root.l0]
        rw [if_pos c, wr (n := lo + hi) (by omega), wr (n := lo + hi + 1) (by omega), hm, wr (n := mid) (by omega), wr (n := mid * mid) (by omega), if_pos c2]
        exact h k (by omega)
      · obtain ⟨r, hr, h⟩ := ih lo (mid - 1) h0 (by omega) (by omega) (by omega) hl (.inr (by rw [show mid - 1 + 1 = mid by omega]; omega))
        refine ⟨r, hr, fun k hk => ?_⟩
        obtain ⟨k, rfl⟩ : ∃ m, k = m + 1 := ⟨k - 1, by omega⟩
        simp only [spec_l01Root.l0]
        rw [if_pos c, wr (n := lo + hi) (by omega), wr (n := lo + hi + 1) (by omega), hm, wr (n := mid) (by omega), wr (n := mid * mid) (by omega), if_neg c2, wr (n := mid - 1) (by omega)]
        exact h k (by omega)
    · obtain rfl : lo = hi := by omega
      refine ⟨lo, ⟨h0, h2, hl, hh⟩, fun k hk => ?_⟩
      obtain ⟨k, rfl⟩ : ∃ m, k = m + 1 := ⟨k - 1, by omega⟩
      simp only [spec_l01Root.l0]; rw [if_neg c]
theorem impl_root (n : Int) (d : Nat) : ∀ lo hi : Int, 0 ≤ lo → lo ≤ hi → hi ≤ 3037000499 → (hi - lo).toNat ≤ d → (lo = 0 ∨ lo * lo ≤ n) → (hi = 3037000499 ∨ n < (hi + 1) * (hi + 1)) →
    ∃ r, RootOk n r ∧ ∀ k, d < k → sort_Search.l0 (fun r => impl_RootOf_1.f n r) k lo hi = some r := by
  induction d with
  | zero =>
    intro lo hi h0 h1 h2 hd hl hh
    obtain rfl : lo = hi := by omega
    refine ⟨lo, ⟨h0, h2, hl, hh⟩, fun k hk => ?_⟩
    obtain ⟨k, rfl⟩ : ∃ m, k = m + 1 := ⟨k - 1, by omega⟩
    have e : ¬ lo < lo := by omega
    simp only [sort_Search.l0]; rw [if_neg e]
  | succ d ih =>
    intro lo hi h0 h1 h2 hd hl hh
    by_cases c : lo < hi
    · generalize hmid : (lo + hi) / 2 = mid at *
      have m0 : lo ≤ mid := by omega
      have m1 : mid < hi := by omega
      have cb : 0 ≤ lo ∧ lo + hi < 4611686018427387904 := by omega
      obtain ⟨s0, s1⟩ := sq_bound (mid + 1) (by omega) (by omega)
      have hf : impl_RootOf_1.f n mid = some (decide (n < (mid + 1) * (mid + 1))) := by
        unfold impl_RootOf_1.f
        rw [wr (n := mid + 1) (by omega), wr (n := (mid + 1) * (mid + 1)) (by omega)]
      by_cases c2 : n < (mid + 1) * (mid + 1)
      · obtain ⟨r, hr, h⟩ := ih lo mid h0 m0 (by omega) (by omega) hl (.inr c2)
        refine ⟨r, hr, fun k hk => ?_⟩
        obtain ⟨k, rfl⟩ : ∃ m, k = m + 1 := ⟨k - 1, by omega⟩
        simp only [sort_Search.l0]
        rw [if_pos c, if_pos cb, hmid, hf, decide_eq_true c2, Option.bind_some, if_pos rfl]
        exact h k (by omega)
      · obtain ⟨r, hr, h⟩ := ih (mid + 1) hi (by omega) (by omega) h2 (by omega) (.inr (by omega)) hh
        refine ⟨r, hr, fun k hk => ?_⟩
        obtain ⟨k, rfl⟩ : ∃ m, k = m + 1 := ⟨k - 1, by omega⟩
        simp only [sort_Search.l0]
        rw [if_pos c, if_pos cb, hmid, hf, decide_eq_false c2, Option.bind_some, if_neg (by simp)]
        exact h k (by omega)
    · obtain rfl : lo = hi := by omega
      refine ⟨lo, ⟨h0, h2, hl, hh⟩, fun k hk => ?_⟩
      obtain ⟨k, rfl⟩ : ∃ m, k = m + 1 := ⟨k - 1, by omega⟩
      simp only [sort_Search.l0]; rw [if_neg c]
theorem FnExactRootOf : laws_FnExactRootOf.Pure := by
  intro n _
  obtain ⟨r, hr, h⟩ := spec_root n 3037000499 0 3037000499 (by omega) (by omega) (by omega) (by omega) (.inl rfl) (.inl rfl)
  obtain ⟨q, hq, g⟩ := impl_root n 3037000499 0 3037000499 (by omega) (by omega) (by omega) (by omega) (.inl rfl) (.inl rfl)
  refine ⟨3037000501, ?_⟩
  unfold laws_FnExactRootOf.f spec_RootOf.f spec_l01Root.f impl_RootOf.f
  rw [h _ (by omega), g _ (by omega)]
  by_cases c : n < 0
  · obtain ⟨r0, _, r2, _⟩ := hr
    have : r = 0 := by
      rcases r2 with r2 | r2
      · exact r2
      · have := Int.mul_nonneg r0 r0; omega
    subst this
    simp [c]
  · obtain rfl := root_unique n q r (by omega) hq hr
    simp [c]

end Go.Proofs.Ythdjfbhjlnplnaa.Pure
