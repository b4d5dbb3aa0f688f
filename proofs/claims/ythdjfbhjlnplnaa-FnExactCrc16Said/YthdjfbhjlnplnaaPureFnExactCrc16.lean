/- Proved: the plain statement of the law FnExactCrc16: the program's function and the reference's give the same answer. Conditions: none beyond the statement's own. -/
import Derived.Test.YthdjfbhjlnplnaaPFnExactCrc16x1
namespace Go.Proofs.Ythdjfbhjlnplnaa.Pure
open Go.RowKit Go.Proofs.Ythdjfbhjlnplnaa.PFnExactCrc16 Go.Proofs.YthdjfbhjlnplnaaW.PrintWords Go.Proofs.YthdjfbhjlnplnaaW.PrintLast
set_option linter.unusedVariables false
set_option linter.unusedSimpArgs false

theorem l00In_eq (a b c : Int) : spec_l00In.f a b c = some (decide (b ≤ a ∧ a ≤ c)) := by
  unfold spec_l00In.f
  by_cases h : a ≥ b <;> simp [h]

theorem within_eq (a b c : Int) : impl_within.f a b c = some (decide (b ≤ a ∧ a ≤ c)) := by
  unfold impl_within.f
  by_cases h : a ≥ b <;> simp [h]

theorem wr {n : Int} (h : -9223372036854775808 ≤ n ∧ n ≤ 9223372036854775807) : wrap64 n = n := by unfold wrap64; omega

theorem bt_range (s : ByteArray) (i : Int) : 0 ≤ bt s i ∧ bt s i < 256 := by
  unfold bt
  split
  · constructor
    · omega
    · have := (s[i.toNat]'(by assumption)).toNat_lt; omega
  · omega

/-- One step of the check value. -/
def crcStep (x : Int) : Int := if wrap64 (x * 2) > 65535 then Go.bits .xor .i64 (Go.bits .and .i64 (wrap64 (x * 2)) 65535) 4129 else wrap64 (x * 2)
def crcSteps : Nat → Int → Int
  | 0, x => x
  | n + 1, x => crcSteps n (crcStep x)
/-- The check value behind the bytes from i on, d of them. -/
def crcFrom (s : ByteArray) : Nat → Nat → Int → Int
  | 0, _, x => x
  | d + 1, i, x => crcFrom s d (i + 1) (crcSteps 8 (Go.bits .xor .i64 x (wrap64 (wrap64 (bt s i) * 256))))

theorem crc1_l1 (s : ByteArray) (i : Int) (d : Nat) : ∀ (k j : Nat) (x : Int), 8 = j + d → d < k →
    spec_l01Crc.l1 k s x i j = spec_l01Crc.l0 (k - d - 1) s (crcSteps d x) (wrap64 (i + 1)) := by
  induction d with
  | zero =>
    intro k j x hd hk
    obtain ⟨k, rfl⟩ : ∃ m, k = m + 1 := ⟨k - 1, by omega⟩
    simp only [spec_l01Crc.l1]; rw [if_neg (by omega)]; rfl
  | succ d ih =>
    intro k j x hd hk
    obtain ⟨k, rfl⟩ : ∃ m, k = m + 1 := ⟨k - 1, by omega⟩
    have h := ih k (j + 1) (crcStep x) (by omega) (by omega)
    simp only [spec_l01Crc.l1]
    rw [if_pos (by omega), wr (n := (j : Int) + 1) (by omega), show k + 1 - (d + 1) - 1 = k - d - 1 by omega]
    rw [show ((j : Int) + 1) = ((j + 1 : Nat) : Int) by omega]
    show _ = spec_l01Crc.l0 _ s (crcSteps d (crcStep x)) _
    rw [← h]
    unfold crcStep
    split <;> rfl

theorem crc1_l0 (s : ByteArray) (hs : s.size ≤ 1048576) (d : Nat) : ∀ (k i : Nat) (x : Int), s.size = i + d → 10 * d < k →
    spec_l01Crc.l0 k s x i = some (crcFrom s d i x) := by
  induction d with
  | zero =>
    intro k i x hd hk
    obtain ⟨k, rfl⟩ : ∃ m, k = m + 1 := ⟨k - 1, by omega⟩
    simp only [spec_l01Crc.l0]; rw [if_neg (by omega)]; rfl
  | succ d ih =>
    intro k i x hd hk
    obtain ⟨k, rfl⟩ : ∃ m, k = m + 1 := ⟨k - 1, by omega⟩
    simp only [spec_l01Crc.l0]
    rw [if_pos (by omega), if_pos (by omega)]
    have := crc1_l1 s i 8 k 0 (Go.bits .xor .i64 x (wrap64 (wrap64 (bt s i) * 256))) (by omega) (by omega)
    rw [show ((0 : Int)) = ((0 : Nat) : Int) by rfl, this, wr (n := (i : Int) + 1) (by omega), show ((i : Int) + 1) = ((i + 1 : Nat) : Int) by omega]
    exact ih _ _ _ (by omega) (by omega)

theorem crc2_l1 (s : ByteArray) (n i : Int) (d : Nat) : ∀ (k j : Nat) (x : Int), 8 = j + d → d < k →
    impl_Crc16.l1 k s x n i j = impl_Crc16.l0 (k - d - 1) s (crcSteps d x) n (wrap64 (i + 1)) := by
  induction d with
  | zero =>
    intro k j x hd hk
    obtain ⟨k, rfl⟩ : ∃ m, k = m + 1 := ⟨k - 1, by omega⟩
    simp only [impl_Crc16.l1]; rw [if_neg (by omega)]; rfl
  | succ d ih =>
    intro k j x hd hk
    obtain ⟨k, rfl⟩ : ∃ m, k = m + 1 := ⟨k - 1, by omega⟩
    have h := ih k (j + 1) (crcStep x) (by omega) (by omega)
    simp only [impl_Crc16.l1]
    rw [if_pos (by omega), wr (n := (j : Int) + 1) (by omega), show k + 1 - (d + 1) - 1 = k - d - 1 by omega]
    rw [show ((j : Int) + 1) = ((j + 1 : Nat) : Int) by omega]
    show _ = impl_Crc16.l0 _ s (crcSteps d (crcStep x)) _ _
    rw [← h]
    unfold crcStep
    split <;> rfl

theorem crc2_l0 (s : ByteArray) (hs : s.size ≤ 1048576) (d : Nat) : ∀ (k i : Nat) (x : Int), s.size = i + d → 10 * d < k →
    impl_Crc16.l0 k s x s.size i = some (crcFrom s d i x) := by
  induction d with
  | zero =>
    intro k i x hd hk
    obtain ⟨k, rfl⟩ : ∃ m, k = m + 1 := ⟨k - 1, by omega⟩
    simp only [impl_Crc16.l0]; rw [if_neg (by omega)]; rfl
  | succ d ih =>
    intro k i x hd hk
    obtain ⟨k, rfl⟩ : ∃ m, k = m + 1 := ⟨k - 1, by omega⟩
    simp only [impl_Crc16.l0]
    rw [if_pos (by omega), if_pos (by omega), if_pos (by omega)]
    have := crc2_l1 s s.size i 8 k 0 (Go.bits .xor .i64 x (wrap64 (wrap64 (bt s i) * 256))) (by omega) (by omega)
    rw [show ((0 : Int)) = ((0 : Nat) : Int) by rfl, this, wr (n := (i : Int) + 1) (by omega), show ((i : Int) + 1) = ((i + 1 : Nat) : Int) by omega]
    exact ih _ _ _ (by omega) (by omega)

theorem FnExactCrc16 : laws_FnExactCrc16.Pure := by
  intro s a _ _
  refine ⟨10 * s.size + 1, ?_⟩
  unfold laws_FnExactCrc16.f spec_Crc16.f impl_Crc16.f spec_l01Crc.f
  split
  · rfl
  · rw [l00In_eq, within_eq]
    have h1 := crc1_l0 s (by omega) s.size (10 * s.size + 1) 0 a (by omega) (by omega)
    have h2 := crc2_l0 s (by omega) s.size (10 * s.size + 1) 0 a (by omega) (by omega)
    simp only [Int.natCast_zero] at h1 h2
    rw [h1, h2]
    simp only [Option.bind_some]
    split <;> simp

end Go.Proofs.Ythdjfbhjlnplnaa.Pure
