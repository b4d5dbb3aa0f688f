/- Proved: the plain statement of the law FnExactEqualErrors: the program's function and the reference's give the same answer. Conditions: none beyond the statement's own. -/
import Derived.Test.YtigjcobannhdlaaDoorStmFnExactEqualErrors
namespace Go.Proofs.YtigjcobannhdlaaDoor.Pure
open Go.RowKit Go.Proofs.YtigjcobannhdlaaDoor.PFnExactEqualErrors Go.Proofs.YtigjcobannhdlaaDoorW.PrintWords Go.Proofs.YtigjcobannhdlaaDoorW.PrintLast
set_option linter.unusedVariables false
set_option linter.unusedSimpArgs false

theorem wr {n : Int} (h : -9223372036854775808 ≤ n ∧ n ≤ 9223372036854775807) : wrap64 n = n := by unfold wrap64; omega

def toT (x : S68) : S59 := ⟨x.f0, x.f1⟩
theorem rdT_lt (l : List S59) (j : Nat) (h : j < l.length) : rd_T59 l j = l[j] := by
  unfold rd_T59; rw [Int.toNat_natCast, List.getD_eq_getElem?_getD, List.getElem?_eq_getElem h]; rfl
theorem rdL_lt (l : List S68) (j : Nat) (h : j < l.length) : rd_T68 l j = l[j] := by
  unfold rd_T68; rw [Int.toNat_natCast, List.getD_eq_getElem?_getD, List.getElem?_eq_getElem h]; rfl
theorem toRatioS_l0 (l : List S68) (hl : l.length ≤ 1048576) (d : Nat) : ∀ (k i : Nat) (m : List S59), l.length = i + d → d < k →
    m = (l.take i).map toT ++ List.replicate (l.length - i) z59 → laws_toRatioS.l0 k l m i = some (l.map toT) := by
  induction d with
  | zero =>
    intro k i m hd hk hm
    obtain ⟨k, rfl⟩ : ∃ m, k = m + 1 := ⟨k - 1, by omega⟩
    simp only [laws_toRatioS.l0]; rw [if_neg (by omega), hm, show l.length - i = 0 by omega, List.take_of_length_le (by omega)]; simp
  | succ d ih =>
    intro k i m hd hk hm
    obtain ⟨k, rfl⟩ : ∃ m, k = m + 1 := ⟨k - 1, by omega⟩
    have hml : m.length = l.length := by subst hm; simp; omega
    simp only [laws_toRatioS.l0, laws_toRatio.f]
    rw [if_pos (by omega), if_pos (by omega)]
    simp only [Option.bind_some]
    rw [if_pos (by omega), wr (n := (i : Int) + 1) (by omega), show ((i : Int) + 1) = ((i + 1 : Nat) : Int) by omega]
    apply ih k (i + 1) _ (by omega) (by omega)
    have h1 : ((l.take i).map toT).length = i := by simp; omega
    rw [Int.toNat_natCast, hm, rdL_lt l i (by omega), List.take_succ_eq_append_getElem (by omega), show l.length - i = (l.length - (i + 1)) + 1 by omega, List.replicate_succ, List.set_append_right _ _ (by omega), h1, Nat.sub_self, List.set_cons_zero, List.map_append, List.append_assoc]
    rfl
theorem toRatioS_eq (k : Nat) (l : List S68) (hl : l.length ≤ 1048576) (hk : l.length < k) : laws_toRatioS.f k l = some (l.map toT) := by
  unfold laws_toRatioS.f
  rw [if_pos (by omega), if_pos (by omega)]
  exact toRatioS_l0 l hl l.length k 0 _ (by omega) hk (by simp)
theorem toTuning_eq (k : Nat) (a : ByteArray) (l : List S68) (hl : l.length ≤ 1048576) (hk : l.length < k) : laws_toTuning.f k a l = some (a, l.map toT) := by
  unfold laws_toTuning.f; rw [toRatioS_eq k l hl hk]; rfl
theorem eqRatioS_l0 (l : List S59) (hl : l.length ≤ 1048576) (d : Nat) : ∀ (k i : Nat), l.length = i + d → d < k → laws_eqRatioS.l0 k l l i = some true := by
  induction d with
  | zero =>
    intro k i hd hk
    obtain ⟨k, rfl⟩ : ∃ m, k = m + 1 := ⟨k - 1, by omega⟩
    simp only [laws_eqRatioS.l0]; rw [if_neg (by omega)]
  | succ d ih =>
    intro k i hd hk
    obtain ⟨k, rfl⟩ : ∃ m, k = m + 1 := ⟨k - 1, by omega⟩
    simp only [laws_eqRatioS.l0, laws_eqRatio.f]
    rw [if_pos (by omega), if_pos (by omega), if_pos (by omega)]
    simp only [if_true, Option.bind_some]
    rw [wr (n := (i : Int) + 1) (by omega), show ((i : Int) + 1) = ((i + 1 : Nat) : Int) by omega]
    exact ih k (i + 1) (by omega) (by omega)
theorem eqRatioS_self (k : Nat) (l : List S59) (hl : l.length ≤ 1048576) (hk : l.length < k) : laws_eqRatioS.f k l l = some true := by
  unfold laws_eqRatioS.f; rw [if_pos rfl]; exact eqRatioS_l0 l hl l.length k 0 (by omega) hk
theorem eqTuning_self (k : Nat) (a : ByteArray) (l : List S59) (hl : l.length ≤ 1048576) (hk : l.length < k) : laws_eqTuning.f k a l a l = some true := by
  unfold laws_eqTuning.f; rw [if_pos rfl, eqRatioS_self k l hl hk]; rfl
theorem szTuning_eq (a : ByteArray) (l : List S68) (left : Int) (ha : a.size ≤ maxLen) (hl : l.length ≤ maxLen) (h : 0 ≤ left ∧ left ≤ 1048576) :
    ∃ r, laws_szTuning.f a l left = some r ∧ (r < 0 ∨ (0 ≤ r ∧ (a.size : Int) + l.length + r = left)) := by
  unfold maxLen at ha hl
  unfold laws_szTuning.f laws_szRatioS.f
  rw [wr (n := left - (a.size : Int)) (by omega)]
  by_cases c1 : left - (a.size : Int) < 0
  · exact ⟨-1, by rw [if_pos c1], .inl (by omega)⟩
  · rw [if_neg c1, wr (n := left - (a.size : Int) - (l.length : Int)) (by omega)]
    by_cases c2 : left - (a.size : Int) - (l.length : Int) < 0
    · exact ⟨-1, by rw [if_pos c2]; rfl, .inl (by omega)⟩
    · exact ⟨left - (a.size : Int) - (l.length : Int), by rw [if_neg c2]; simp only [Option.bind_some]; rw [if_neg c2], .inr (by omega)⟩

theorem l00In_eq (a b c : Int) : spec_l00In.f a b c = some (decide (b ≤ a ∧ a ≤ c)) := by
  unfold spec_l00In.f
  by_cases h : a ≥ b <;> simp [h]

theorem within_eq (a b c : Int) : impl_within.f a b c = some (decide (b ≤ a ∧ a ≤ c)) := by
  unfold impl_within.f
  by_cases h : a ≥ b <;> simp [h]

theorem gcd_step (a b : Nat) : Nat.gcd b (a % b) = Nat.gcd a b := by
  rw [Nat.gcd_comm a b, Nat.gcd_rec b a, Nat.gcd_comm]
theorem l02Gcd_l0 (d : Nat) : ∀ (k a b : Nat), b ≤ d → d < k → spec_l02Gcd.l0 k (a : Int) (b : Int) = some (Nat.gcd a b : Int) := by
  induction d with
  | zero =>
    intro k a b hb hk
    obtain ⟨k, rfl⟩ : ∃ m, k = m + 1 := ⟨k - 1, by omega⟩
    obtain rfl : b = 0 := by omega
    simp [spec_l02Gcd.l0]
  | succ d ih =>
    intro k a b hb hk
    obtain ⟨k, rfl⟩ : ∃ m, k = m + 1 := ⟨k - 1, by omega⟩
    simp only [spec_l02Gcd.l0]
    by_cases h : (b : Int) = 0
    · rw [if_pos h]; obtain rfl : b = 0 := by omega
      simp
    · rw [if_neg h]
      have e : Int.tmod (a : Int) b = ((a % b : Nat) : Int) := rfl
      have hlt := Nat.mod_lt a (show b > 0 by omega)
      rw [e, ih k b (a % b) (by omega) (by omega), gcd_step]
theorem commonDivisor_l0 (d : Nat) : ∀ (k a b : Nat), b ≤ d → d < k → impl_commonDivisor.l0 k (a : Int) (b : Int) = some (Nat.gcd a b : Int) := by
  induction d with
  | zero =>
    intro k a b hb hk
    obtain ⟨k, rfl⟩ : ∃ m, k = m + 1 := ⟨k - 1, by omega⟩
    obtain rfl : b = 0 := by omega
    simp [impl_commonDivisor.l0]
  | succ d ih =>
    intro k a b hb hk
    obtain ⟨k, rfl⟩ : ∃ m, k = m + 1 := ⟨k - 1, by omega⟩
    simp only [impl_commonDivisor.l0]
    by_cases h : (b : Int) = 0
    · rw [if_pos h]; obtain rfl : b = 0 := by omega
      simp
    · rw [if_neg h]
      have e : Int.tmod (a : Int) b = ((a % b : Nat) : Int) := rfl
      have hlt := Nat.mod_lt a (show b > 0 by omega)
      rw [e, ih k b (a % b) (by omega) (by omega), gcd_step]
theorem l02Gcd_eq (k : Nat) (a b : Int) (ha : 0 ≤ a) (hb : 0 ≤ b) (hk : b.toNat < k) : spec_l02Gcd.f k a b = some (Nat.gcd a.toNat b.toNat : Int) := by
  unfold spec_l02Gcd.f
  have := l02Gcd_l0 b.toNat k a.toNat b.toNat (Nat.le_refl _) hk
  rwa [show ((a.toNat : Nat) : Int) = a by omega, show ((b.toNat : Nat) : Int) = b by omega] at this
theorem commonDivisor_eq (k : Nat) (a b : Int) (ha : 0 ≤ a) (hb : 0 ≤ b) (hk : b.toNat < k) : impl_commonDivisor.f k a b = some (Nat.gcd a.toNat b.toNat : Int) := by
  unfold impl_commonDivisor.f
  have := commonDivisor_l0 b.toNat k a.toNat b.toNat (Nat.le_refl _) hk
  rwa [show ((a.toNat : Nat) : Int) = a by omega, show ((b.toNat : Nat) : Int) = b by omega] at this
/-- Two numbers that are a valid ratio. -/
def RatOk (x y : Int) : Prop := (1 ≤ x ∧ x ≤ 1000000) ∧ (1 ≤ y ∧ y ≤ 1000000) ∧ Nat.gcd x.toNat y.toNat = 1
instance ratOkDec (x y : Int) : Decidable (RatOk x y) := by unfold RatOk; infer_instance
theorem one_beq (n : Nat) : (((n : Int) == 1) : Bool) = decide (n = 1) := by
  rw [Bool.eq_iff_iff, beq_iff_eq, decide_eq_true_iff]; omega

theorem l02Ok_eq (k : Nat) (x y : Int) (hk : 1000000 < k) : spec_l02Ok.f k x y = some (decide (RatOk x y)) := by
  unfold spec_l02Ok.f spec_l02Part.f
  rw [l00In_eq, l00In_eq]
  simp only [Option.bind_some]
  by_cases h1 : 1 ≤ x ∧ x ≤ 1000000
  · by_cases h2 : 1 ≤ y ∧ y ≤ 1000000
    · rw [l02Gcd_eq k x y (by omega) (by omega) (by omega)]
      simp only [Option.bind_some, decide_eq_true h1, decide_eq_true h2, if_true]
      rw [one_beq]; congr 1; simp [RatOk, h1, h2]
    · simp [h1, h2, RatOk]
  · simp [h1, RatOk]

theorem ValidRatio_eq (k : Nat) (x y : Int) (hk : 1000000 < k) : impl_ValidRatio.f k x y = some (decide (RatOk x y)) := by
  unfold impl_ValidRatio.f
  rw [within_eq, within_eq]
  simp only [Option.bind_some]
  by_cases h1 : 1 ≤ x ∧ x ≤ 1000000
  · by_cases h2 : 1 ≤ y ∧ y ≤ 1000000
    · rw [commonDivisor_eq k x y (by omega) (by omega) (by omega)]
      simp only [Option.bind_some, decide_eq_true h1, decide_eq_true h2, if_true]
      rw [one_beq]; congr 1; simp [RatOk, h1, h2]
    · simp [h1, h2, RatOk]
  · simp [h1, RatOk]


theorem bt_range (s : ByteArray) (i : Int) : 0 ≤ bt s i ∧ bt s i < 256 := by
  unfold bt
  split
  · constructor
    · omega
    · have := (s[i.toNat]'(by assumption)).toNat_lt; omega
  · omega

theorem bytes_nil (s : ByteArray) : s.toList = ([] : List UInt8) ↔ s.size = 0 := by
  rw [Go.ByteArray.toList_eq]
  have : s.data.toList.length = s.size := by cases s; rfl
  constructor
  · intro h; rw [h] at this; simpa using this.symm
  · intro h; exact List.length_eq_zero_iff.1 (by omega)

/-- A byte that a name may bear. -/
def nameB (c : Int) : Prop := (97 ≤ c ∧ c ≤ 122) ∨ (48 ≤ c ∧ c ≤ 57)
/-- A text that is a name. -/
def nameOk (s : ByteArray) : Prop := 1 ≤ s.size ∧ s.size ≤ 10 ∧ (97 ≤ bt s 0 ∧ bt s 0 ≤ 122) ∧ ∀ j : Nat, j < s.size → nameB (bt s j)

instance nameBDec (c : Int) : Decidable (nameB c) := by unfold nameB; infer_instance
instance nameOkDec (s : ByteArray) : Decidable (nameOk s) := by unfold nameOk; infer_instance
theorem small_eq (c : Int) : spec_l01Small.f c = some (decide (97 ≤ c ∧ c ≤ 122)) := by
  unfold spec_l01Small.f
  by_cases h : c ≥ 97 <;> simp [h]
theorem digit_eq (c : Int) : spec_l01Digit.f c = some (decide (48 ≤ c ∧ c ≤ 57)) := by
  unfold spec_l01Digit.f
  by_cases h : c ≥ 48 <;> simp [h]

theorem name_l0 (s : ByteArray) (hs : s.size ≤ 10) (d : Nat) : ∀ (k i : Nat), s.size = i + d → d < k →
    ∃ b, spec_l01Name.l0 k s i = some b ∧ (b = true ↔ ∀ j : Nat, i ≤ j → j < s.size → nameB (bt s j)) := by
  induction d with
  | zero =>
    intro k i hd hk
    obtain ⟨k, rfl⟩ : ∃ m, k = m + 1 := ⟨k - 1, by omega⟩
    exact ⟨true, by simp only [spec_l01Name.l0]; rw [if_neg (by omega)], by simp; intro j h1 h2; omega⟩
  | succ d ih =>
    intro k i hd hk
    obtain ⟨k, rfl⟩ : ∃ m, k = m + 1 := ⟨k - 1, by omega⟩
    simp only [spec_l01Name.l0]
    rw [if_pos (by omega), if_pos (by omega), small_eq, digit_eq, Option.bind_some, Option.bind_some, wr (n := (i : Int) + 1) (by omega)]
    obtain ⟨b, hb, hiff⟩ := ih k (i + 1) (by omega) (by omega)
    have hb' : spec_l01Name.l0 k s ((i : Int) + 1) = some b := by simpa using hb
    rw [hb']
    by_cases hc : nameB (bt s i)
    · refine ⟨b, ?_, ?_⟩
      · unfold nameB at hc
        rcases hc with hc | hc
        · simp [hc]
        · simp [hc]
      · rw [hiff]
        constructor
        · intro h j h1 h2
          by_cases e : j = i
          · subst e; exact hc
          · exact h j (by omega) h2
        · intro h j h1 h2; exact h j (by omega) h2
    · refine ⟨false, ?_, ?_⟩
      · unfold nameB at hc
        have c1 : ¬ (97 ≤ bt s i ∧ bt s i ≤ 122) := fun h => hc (Or.inl h)
        have c2 : ¬ (48 ≤ bt s i ∧ bt s i ≤ 57) := fun h => hc (Or.inr h)
        simp [c1, c2]
      · simp; exact ⟨i, by omega, by omega, hc⟩

theorem onlyName_l0 (s : ByteArray) (hs : s.size ≤ 10) (d : Nat) : ∀ (k i : Nat), s.size = i + d → d < k →
    ∃ b, impl_onlyNameBytes.l0 k s s.size i = some b ∧ (b = true ↔ ∀ j : Nat, i ≤ j → j < s.size → nameB (bt s j)) := by
  induction d with
  | zero =>
    intro k i hd hk
    obtain ⟨k, rfl⟩ : ∃ m, k = m + 1 := ⟨k - 1, by omega⟩
    exact ⟨true, by simp only [impl_onlyNameBytes.l0]; rw [if_neg (by omega)], by simp; intro j h1 h2; omega⟩
  | succ d ih =>
    intro k i hd hk
    obtain ⟨k, rfl⟩ : ∃ m, k = m + 1 := ⟨k - 1, by omega⟩
    simp only [impl_onlyNameBytes.l0]
    rw [if_pos (by omega), if_pos (by omega), if_pos (by omega), wr (n := (i : Int) + 1) (by omega)]
    obtain ⟨b, hb, hiff⟩ := ih k (i + 1) (by omega) (by omega)
    have hb' : impl_onlyNameBytes.l0 k s s.size ((i : Int) + 1) = some b := by simpa using hb
    rw [hb']
    by_cases hc : nameB (bt s i)
    · refine ⟨b, ?_, ?_⟩
      · unfold nameB at hc
        rcases hc with hc | hc
        · rw [if_neg (by omega), if_neg (by omega)]
        · rw [if_pos (by omega), if_neg (by omega), if_neg (by omega)]
      · rw [hiff]
        constructor
        · intro h j h1 h2
          by_cases e : j = i
          · subst e; exact hc
          · exact h j (by omega) h2
        · intro h j h1 h2; exact h j (by omega) h2
    · refine ⟨false, ?_, ?_⟩
      · unfold nameB at hc
        have c1 : ¬ (97 ≤ bt s i ∧ bt s i ≤ 122) := fun h => hc (Or.inl h)
        have c2 : ¬ (48 ≤ bt s i ∧ bt s i ≤ 57) := fun h => hc (Or.inr h)
        by_cases c3 : bt s i < 97
        · rw [if_pos c3]
          by_cases c4 : bt s i < 48
          · rw [if_pos c4]
          · rw [if_neg c4, if_pos (by omega)]
        · rw [if_neg c3, if_pos (by omega), if_neg (by omega), if_pos (by omega)]
      · simp; exact ⟨i, by omega, by omega, hc⟩

theorem l01Name_eq (k : Nat) (s : ByteArray) (hk : 20 < k) : spec_l01Name.f k s = some (decide (nameOk s)) := by
  have hj : ∀ (b : Bool), s.size ≤ 10 → ∃ r, spec_l01Name.j0 k s b = some r ∧ (r = true ↔ (b = false ∧ ∀ j : Nat, j < s.size → nameB (bt s j))) := by
    intro b hs
    obtain ⟨k, rfl⟩ : ∃ m, k = m + 1 := ⟨k - 1, by omega⟩
    obtain ⟨r, hr, hiff⟩ := name_l0 s hs s.size k 0 (by omega) (by omega)
    simp only [spec_l01Name.j0]
    cases b
    · exact ⟨r, by simpa using hr, by rw [hiff]; simp⟩
    · exact ⟨false, by simp, by simp⟩
  unfold spec_l01Name.f
  by_cases h0 : s.size = 0
  · rw [if_pos ((bytes_nil s).2 h0)]
    obtain ⟨r, hr, hiff⟩ := hj true (by omega)
    rw [hr]; congr 1; rw [Bool.eq_iff_iff, hiff]; simp [nameOk, h0]
  · rw [if_neg (fun h => h0 ((bytes_nil s).1 h))]
    by_cases h1 : (s.size : Int) > 10
    · rw [if_pos h1]
      obtain ⟨k, rfl⟩ : ∃ m, k = m + 1 := ⟨k - 1, by omega⟩
      simp only [spec_l01Name.j0]
      simp only [if_true]; congr 1; symm; rw [decide_eq_false_iff_not]; unfold nameOk; omega
    · rw [if_neg h1, if_pos (by omega), small_eq, Option.bind_some]
      obtain ⟨r, hr, hiff⟩ := hj (!decide (97 ≤ bt s 0 ∧ bt s 0 ≤ 122)) (by omega)
      rw [hr]; congr 1; rw [Bool.eq_iff_iff, hiff, decide_eq_true_iff]; unfold nameOk
      constructor
      · rintro ⟨a, b⟩; exact ⟨by omega, by omega, by simpa using a, b⟩
      · rintro ⟨a, b, c, d⟩; exact ⟨by simpa using c, d⟩

theorem IsName_eq (k : Nat) (s : ByteArray) (hk : 20 < k) : impl_IsName.f k s = some (decide (nameOk s)) := by
  unfold impl_IsName.f
  by_cases h0 : (s.size : Int) < 1
  · rw [if_pos h0]; congr 1; symm; rw [decide_eq_false_iff_not]; unfold nameOk; omega
  · rw [if_neg h0]
    by_cases h1 : (s.size : Int) > 10
    · rw [if_pos h1]; congr 1; symm; rw [decide_eq_false_iff_not]; unfold nameOk; omega
    · rw [if_neg h1, if_pos (by omega)]
      by_cases h2 : bt s 0 < 97
      · rw [if_pos h2]; congr 1; symm; rw [decide_eq_false_iff_not]; unfold nameOk; omega
      · rw [if_neg h2]
        by_cases h3 : bt s 0 > 122
        · rw [if_pos h3]; congr 1; symm; rw [decide_eq_false_iff_not]; unfold nameOk; omega
        · rw [if_neg h3]
          unfold impl_onlyNameBytes.f
          obtain ⟨r, hr, hiff⟩ := onlyName_l0 s (by omega) s.size k 0 (by omega) (by omega)
          have hr' : impl_onlyNameBytes.l0 k s s.size 0 = some r := by simpa using hr
          rw [hr', Option.bind_some]; congr 1; rw [Bool.eq_iff_iff, hiff, decide_eq_true_iff]; unfold nameOk
          constructor
          · intro a; exact ⟨by omega, by omega, by omega, fun j h => a j (by omega) h⟩
          · rintro ⟨a, b, c, d⟩ j _ h; exact d j h

theorem cmpT_eq (a b : Int) : cmp_Compare_int64.f a b = some (if a < b then -1 else if a > b then 1 else 0) := by
  unfold cmp_Compare_int64.f cmp_isNaN_int64.f
  simp only [Option.bind_some, bne_self_eq_false, Bool.false_eq_true, if_false]
  split
  · rfl
  · split <;> rfl
theorem sgn_eq (a b c d : Int) : ∃ u v, spec_l02Compare.f a b c d = some v ∧ impl_Ratio_compare.f c d a b = some u ∧ (v ≥ 0 ↔ u ≤ 0) := by
  unfold spec_l02Compare.f impl_Ratio_compare.f
  rw [cmpT_eq]
  generalize wrap64 (a * d) = x
  generalize wrap64 (c * b) = y
  simp only [Option.bind_some]
  by_cases h1 : x < y
  · refine ⟨_, _, by rw [if_pos h1], rfl, ?_⟩
    have h2 : ¬ y < x := by omega
    rw [if_neg h2, if_pos h1]; decide
  · by_cases h2 : x > y
    · refine ⟨_, _, by rw [if_neg h1, if_pos h2], rfl, ?_⟩
      have h3 : y < x := h2
      rw [if_pos h3]; decide
    · refine ⟨_, _, by rw [if_neg h1, if_neg h2], rfl, ?_⟩
      have h3 : ¬ y < x := h2
      have h4 : ¬ y > x := by omega
      rw [if_neg h3, if_neg h4]
def ElOk (p : S59) : Prop := RatOk p.f0 p.f1 ∧ p.f0 < 2 * p.f1
theorem tun_l0 (a : ByteArray) (l : List S59) (hl : l.length = 12) (o : Bool) (ho : ((if (rd_T59 l 0).f0 = 1 then some ((rd_T59 l 0).f1 == 1) else some false) : Option Bool) = some o) (d : Nat) : ∀ (i : Nat), l.length = i + d →
    ∃ r : Bool, (∀ k, 1000001 + d < k → spec_l04Ok.l0 k l i = some (r && o) ∧ impl_ValidTuning.l0 k l l.length i a l = some r) ∧ (r = true → ∀ j : Nat, i ≤ j → j < l.length → ElOk (rd_T59 l j)) := by
  induction d with
  | zero =>
    intro i hd
    refine ⟨true, fun k hk => ?_, fun _ j h1 h2 => by omega⟩
    obtain ⟨k, rfl⟩ : ∃ m, k = m + 1 := ⟨k - 1, by omega⟩
    have e : ¬ (i : Int) < (l.length : Int) := by omega
    have e1 : 0 < (l.length : Int) := by omega
    simp only [spec_l04Ok.l0, impl_ValidTuning.l0]
    rw [if_neg e, if_neg e, if_pos e1, ho]; exact ⟨by rw [Bool.true_and], rfl⟩
  | succ d ih =>
    intro i hd
    have e : (i : Int) < (l.length : Int) := by omega
    have e0 : 0 ≤ (i : Int) := by omega
    have ew : wrap64 ((i : Int) + 1) = ((i + 1 : Nat) : Int) := by rw [wr (n := (i : Int) + 1) (by omega)]; omega
    generalize hp : rd_T59 l (i : Int) = p
    have fin : ∀ (hbad : ∀ k, 1000001 < k → spec_l04Ok.l0 (k + 1) l i = some false ∧ impl_ValidTuning.l0 (k + 1) l l.length i a l = some false),
        ∃ r : Bool, (∀ k, 1000001 + (d + 1) < k → spec_l04Ok.l0 k l i = some (r && o) ∧ impl_ValidTuning.l0 k l l.length i a l = some r) ∧ (r = true → ∀ j : Nat, i ≤ j → j < l.length → ElOk (rd_T59 l j)) := fun hbad => by
      refine ⟨false, fun k hk => ?_, fun h => by simp at h⟩
      obtain ⟨k, rfl⟩ : ∃ m, k = m + 1 := ⟨k - 1, by omega⟩
      rw [Bool.false_and]; exact hbad k (by omega)
    by_cases c1 : RatOk p.f0 p.f1
    · have hm : wrap64 (2 * p.f1) = 2 * p.f1 := by have := c1.2.1; exact wr (by omega)
      by_cases c2 : p.f0 ≥ 2 * p.f1
      · apply fin
        intro k hk
        simp only [spec_l04Ok.l0, impl_ValidTuning.l0, hp, l02Ok_eq k p.f0 p.f1 (by omega), ValidRatio_eq k p.f0 p.f1 (by omega), Option.bind_some, decide_eq_true c1, if_true, hm]
        rw [if_pos e, if_pos e0, if_pos c2, if_pos e, if_pos e0, if_pos e, if_pos c2]; exact ⟨rfl, rfl⟩
      · obtain ⟨r, h1, h2⟩ := ih (i + 1) (by omega)
        have hel : ElOk p := ⟨c1, by omega⟩
        by_cases c3 : (i : Int) > 0
        · have wj : wrap64 ((i : Int) - 1) = (i : Int) - 1 := wr (by omega)
          have j0 : 0 ≤ (i : Int) - 1 := by omega
          have j1 : (i : Int) - 1 < (l.length : Int) := by omega
          generalize hq : rd_T59 l ((i : Int) - 1) = q
          obtain ⟨u, v, s1, s2, s3⟩ := sgn_eq q.f0 q.f1 p.f0 p.f1
          by_cases c4 : v ≥ 0
          · have c5 := s3.1 c4
            apply fin
            intro k hk
            simp only [spec_l04Ok.l0, impl_ValidTuning.l0, wj, hp, hq, s1, s2, l02Ok_eq k p.f0 p.f1 (by omega), ValidRatio_eq k p.f0 p.f1 (by omega), Option.bind_some, decide_eq_true c1, if_true, hm]
            rw [if_pos e, if_pos e0, if_neg c2, if_pos c3, if_pos j0, if_pos j1, if_pos c4, if_pos e, if_pos e0, if_pos e, if_neg c2, if_pos c3, if_pos j0, if_pos j1, if_pos c5]; exact ⟨rfl, rfl⟩
          · have c5 : ¬ u ≤ 0 := fun h => c4 (s3.2 h)
            refine ⟨r, fun k hk => ?_, fun ho j q1 q2 => ?_⟩
            · obtain ⟨k, rfl⟩ : ∃ m, k = m + 1 := ⟨k - 1, by omega⟩
              simp only [spec_l04Ok.l0, impl_ValidTuning.l0, wj, hp, hq, s1, s2, l02Ok_eq k p.f0 p.f1 (by omega), ValidRatio_eq k p.f0 p.f1 (by omega), Option.bind_some, decide_eq_true c1, if_true, hm, ew, (h1 k (by omega)).1, (h1 k (by omega)).2]
              rw [if_pos e, if_pos e0, if_neg c2, if_pos c3, if_pos j0, if_pos j1, if_neg c4, if_pos e, if_pos e0, if_pos e, if_neg c2, if_pos c3, if_pos j0, if_pos j1, if_neg c5]; exact ⟨rfl, rfl⟩
            · by_cases z : j = i
              · subst z; rw [hp]; exact hel
              · exact h2 ho j (by omega) q2
        · refine ⟨r, fun k hk => ?_, fun ho j q1 q2 => ?_⟩
          · obtain ⟨k, rfl⟩ : ∃ m, k = m + 1 := ⟨k - 1, by omega⟩
            simp only [spec_l04Ok.l0, impl_ValidTuning.l0, hp, l02Ok_eq k p.f0 p.f1 (by omega), ValidRatio_eq k p.f0 p.f1 (by omega), Option.bind_some, decide_eq_true c1, if_true, hm, ew, (h1 k (by omega)).1, (h1 k (by omega)).2]
            rw [if_pos e, if_pos e0, if_neg c2, if_neg c3, if_pos e, if_pos e0, if_pos e, if_neg c2, if_neg c3]; exact ⟨rfl, rfl⟩
          · by_cases z : j = i
            · subst z; rw [hp]; exact hel
            · exact h2 ho j (by omega) q2
    · apply fin
      intro k hk
      simp only [spec_l04Ok.l0, impl_ValidTuning.l0, hp, l02Ok_eq k p.f0 p.f1 (by omega), ValidRatio_eq k p.f0 p.f1 (by omega), Option.bind_some, decide_eq_false c1]
      rw [if_pos e, if_pos e0, if_pos e, if_pos e0, if_pos e]; exact ⟨rfl, rfl⟩
structure GoodT (l : List S59) : Prop where
  len : l.length = 12
  el : ∀ j : Nat, j < 12 → ElOk (rd_T59 l j)
theorem tuning_eq (a : ByteArray) (l : List S59) :
    ∃ r : Bool, (∀ k, 1000100 < k → spec_l04Ok.f k a l = some r ∧ impl_ValidTuning.f k a l = some r) ∧ (r = true → GoodT l) := by
  unfold spec_l04Ok.f impl_ValidTuning.f
  by_cases h1 : nameOk a
  · by_cases h2 : (l.length : Int) = 12
    · have h0 : 0 < (l.length : Int) := by omega
      generalize hp : rd_T59 l 0 = p
      obtain ⟨o, ho⟩ : ∃ o, ((if p.f0 = 1 then some (p.f1 == 1) else some false) : Option Bool) = some o := by split <;> exact ⟨_, rfl⟩
      obtain ⟨r, hr, hg⟩ := tun_l0 a l (by omega) o (by rw [hp]; exact ho) l.length 0 (by omega)
      have hb : (!(p.f0 == 1) || (!(p.f1 == 1))) = !o := by
        by_cases c : p.f0 = 1
        · rw [if_pos c] at ho; have := Option.some.inj ho; subst this; simp [c]
        · rw [if_neg c] at ho; have := Option.some.inj ho; subst this; simp [c]
      refine ⟨r && o, fun k hk => ?_, fun h => ⟨by omega, fun j hj => hg (by simp at h; exact h.1) j (by omega) (by omega)⟩⟩
      obtain ⟨k, rfl⟩ : ∃ m, k = m + 1 := ⟨k - 1, by omega⟩
      have e1 := (hr (k + 1) (by omega)).1
      have e2 := (hr k (by omega)).2
      simp only [Int.natCast_zero] at e1 e2
      rw [l01Name_eq _ a (by omega), IsName_eq _ a (by omega)]
      simp only [Option.bind_some, decide_eq_true h1, if_true, if_pos h2, if_pos h0, hb, impl_ValidTuning.j0, e1, e2]
      first | done | (cases o <;> simp)
    · refine ⟨false, fun k hk => ?_, fun h => by simp at h⟩
      obtain ⟨k, rfl⟩ : ∃ m, k = m + 1 := ⟨k - 1, by omega⟩
      rw [l01Name_eq _ a (by omega), IsName_eq _ a (by omega)]
      simp only [Option.bind_some, decide_eq_true h1, if_true, if_neg h2, impl_ValidTuning.j0]; exact ⟨trivial, trivial⟩
  · refine ⟨false, fun k hk => ?_, fun h => by simp at h⟩
    obtain ⟨k, rfl⟩ : ∃ m, k = m + 1 := ⟨k - 1, by omega⟩
    rw [l01Name_eq _ a (by omega), IsName_eq _ a (by omega)]
    simp [h1, impl_ValidTuning.j0]

theorem oct_l1 (d : Nat) : ∀ (k : Nat) (x y z : Int), y - x ≤ d → 1 ≤ x → x < 2 * y → y ≤ 1000000 → -4000000 + d ≤ z → z ≤ 4000000 → d < k →
    ∃ r1 r2 r3, spec_l02Octave.l1 k x y z = some (r1, r2, r3) ∧ impl_Ratio_octave.l1 k x y z = some (r1, r2, r3) ∧ r2 ≤ r1 ∧ r1 < 2 * r2 ∧ 1 ≤ r2 ∧ r2 ≤ 1000000 ∧ -4000000 ≤ r3 ∧ r3 ≤ 4000000 := by
  induction d with
  | zero =>
    intro k x y z h1 h2 h3 h4 h5 h6 hk
    obtain ⟨k, rfl⟩ : ∃ m, k = m + 1 := ⟨k - 1, by omega⟩
    have c : ¬ x < y := by omega
    simp only [spec_l02Octave.l1, impl_Ratio_octave.l1, if_neg c]
    exact ⟨x, y, z, rfl, rfl, by omega, by omega, by omega, by omega, by omega, by omega⟩
  | succ d ih =>
    intro k x y z h1 h2 h3 h4 h5 h6 hk
    obtain ⟨k, rfl⟩ : ∃ m, k = m + 1 := ⟨k - 1, by omega⟩
    simp only [spec_l02Octave.l1, impl_Ratio_octave.l1]
    by_cases c : x < y
    · simp only [if_pos c]
      rw [wr (n := x * 2) (by omega), wr (n := z - 1) (by omega)]
      exact ih k (x * 2) y (z - 1) (by omega) (by omega) (by omega) h4 (by omega) (by omega) (by omega)
    · simp only [if_neg c]
      exact ⟨x, y, z, rfl, rfl, by omega, by omega, by omega, by omega, by omega, by omega⟩
theorem oct_l0 (d : Nat) : ∀ (k : Nat) (x y z : Int), x - y ≤ d → 1 ≤ x → x ≤ 1000000 → 1 ≤ y → y ≤ 1000000 → 0 ≤ z → z + d ≤ 2000000 → d + 1000002 < k →
    ∃ r1 r2 r3, spec_l02Octave.l0 k x y z = some (r1, r2, r3) ∧ impl_Ratio_octave.l0 k x y z = some (r1, r2, r3) ∧ r2 ≤ r1 ∧ r1 < 2 * r2 ∧ 1 ≤ r2 ∧ r2 ≤ 1000000 ∧ -4000000 ≤ r3 ∧ r3 ≤ 4000000 := by
  induction d with
  | zero =>
    intro k x y z h1 h2 h3 h4 h5 h6 h7 hk
    obtain ⟨k, rfl⟩ : ∃ m, k = m + 1 := ⟨k - 1, by omega⟩
    simp only [spec_l02Octave.l0, impl_Ratio_octave.l0]
    rw [wr (n := 2 * y) (by omega)]
    have c : ¬ x ≥ 2 * y := by omega
    simp only [if_neg c]
    exact oct_l1 (1000000) k x y z (by omega) h2 (by omega) h5 (by omega) (by omega) (by omega)
  | succ d ih =>
    intro k x y z h1 h2 h3 h4 h5 h6 h7 hk
    obtain ⟨k, rfl⟩ : ∃ m, k = m + 1 := ⟨k - 1, by omega⟩
    simp only [spec_l02Octave.l0, impl_Ratio_octave.l0]
    rw [wr (n := 2 * y) (by omega)]
    by_cases c : x ≥ 2 * y
    · simp only [if_pos c]
      rw [wr (n := y * 2) (by omega), wr (n := z + 1) (by omega)]
      exact ih k x (y * 2) (z + 1) (by omega) h2 h3 (by omega) (by omega) (by omega) (by omega) (by omega)
    · simp only [if_neg c]
      exact oct_l1 (1000000) k x y z (by omega) h2 (by omega) h5 (by omega) (by omega) (by omega)
theorem octave_eq (x y : Int) (hx : 1 ≤ x ∧ x ≤ 1000000) (hy : 1 ≤ y ∧ y ≤ 1000000) (k : Nat) (hk : 3000000 < k) :
    ∃ r1 r2 r3, spec_l02Octave.f k x y = some (r1, r2, r3) ∧ impl_Ratio_octave.f k x y = some (r1, r2, r3) ∧ r2 ≤ r1 ∧ r1 < 2 * r2 ∧ 1 ≤ r2 ∧ r2 ≤ 1000000 ∧ -4000000 ≤ r3 ∧ r3 ≤ 4000000 := by
  unfold spec_l02Octave.f impl_Ratio_octave.f
  exact oct_l0 1000000 k x y 0 (by omega) hx.1 hx.2 hy.1 hy.2 (by omega) (by omega) (by omega)

theorem div_core (A B : Int) (hA : 0 ≤ A) (hB : 0 < B) : (2 * A + B) / (2 * B) = if A % B ≥ B - A % B then A / B + 1 else A / B := by
  have e : B * (A / B) + A % B = A := Int.mul_ediv_add_emod A B
  have h0 : 0 ≤ A % B := Int.emod_nonneg A (by omega)
  have h1 : A % B < B := Int.emod_lt_of_pos A hB
  generalize A % B = r at *
  generalize A / B = q at *
  split
  · rw [show 2 * A + B = (2 * r - B) + (2 * B) * (q + 1) by rw [← e, Int.mul_add, Int.mul_add]; rw [Int.mul_assoc 2 B q]; omega,
      Int.add_mul_ediv_left _ _ (by omega), Int.ediv_eq_zero_of_lt (by omega) (by omega)]; omega
  · rw [show 2 * A + B = (2 * r + B) + (2 * B) * q by rw [← e, Int.mul_add]; rw [Int.mul_assoc 2 B q]; omega,
      Int.add_mul_ediv_left _ _ (by omega), Int.ediv_eq_zero_of_lt (by omega) (by omega)]; omega

/-- The nearest quotient, halves away from 0. -/
def divR (a b : Int) : Int :=
  if b < 0 then (if a > 0 then -((2 * a + -b) / (2 * -b)) else (2 * -a + -b) / (2 * -b))
  else (if a < 0 then -((2 * -a + b) / (2 * b)) else (2 * a + b) / (2 * b))

theorem quot_bound (A B : Int) (hA : 0 ≤ A) (hB : 0 < B) : 0 ≤ (2 * A + B) / (2 * B) ∧ (2 * A + B) / (2 * B) ≤ 2 * A + B :=
  ⟨Int.ediv_nonneg (by omega) (by omega), Int.ediv_le_self _ (by omega)⟩

theorem ediv_le_self' (A B : Int) (hA : 0 ≤ A) (hB : 0 < B) : 0 ≤ A / B ∧ A / B ≤ A :=
  ⟨Int.ediv_nonneg hA (by omega), Int.ediv_le_self _ hA⟩

theorem l01Div_eq (a b : Int) (ha : -1000000000000000000 ≤ a ∧ a ≤ 1000000000000000000) (hb : -1000000000000000000 ≤ b ∧ b ≤ 1000000000000000000) (h0 : b ≠ 0) :
    spec_l01Div.f a b = some (divR a b) := by
  unfold spec_l01Div.f divR
  have w1 : wrap64 (-a) = -a := wr (by omega)
  have w2 : wrap64 (-b) = -b := wr (by omega)
  rw [w1, w2]
  have w3 : wrap64 (2 * -a) = 2 * -a := wr (by omega)
  have w4 : wrap64 (2 * -b) = 2 * -b := wr (by omega)
  have w5 : wrap64 (2 * a) = 2 * a := wr (by omega)
  have w6 : wrap64 (2 * b) = 2 * b := wr (by omega)
  rw [w3, w4, w5, w6]
  by_cases c : b < 0
  · rw [if_pos c, if_pos c]
    by_cases d : a > 0
    · rw [if_pos (show -a < 0 by omega), if_neg (by omega), if_pos d]
      have hq := quot_bound a (-b) (by omega) (by omega)
      rw [show -b - 2 * -a = 2 * a + -b by omega, wr (n := 2 * a + -b) (by omega), Int.tdiv_eq_ediv_of_nonneg (by omega), wr (n := (2 * a + -b) / (2 * -b)) (by omega), wr (by omega)]
    · rw [if_neg (show ¬ -a < 0 by omega), if_neg (by omega), if_neg d]
      have hq := quot_bound (-a) (-b) (by omega) (by omega)
      rw [wr (n := 2 * -a + -b) (by omega), Int.tdiv_eq_ediv_of_nonneg (by omega), wr (by omega)]
  · rw [if_neg c, if_neg c]
    by_cases d : a < 0
    · rw [if_pos d, if_neg (by omega), if_pos d]
      have hq := quot_bound (-a) b (by omega) (by omega)
      rw [show b - 2 * a = 2 * -a + b by omega, wr (n := 2 * -a + b) (by omega), Int.tdiv_eq_ediv_of_nonneg (by omega), wr (n := (2 * -a + b) / (2 * b)) (by omega), wr (by omega)]
    · rw [if_neg d, if_neg (by omega), if_neg d]
      have hq := quot_bound a b (by omega) (by omega)
      rw [wr (n := 2 * a + b) (by omega), Int.tdiv_eq_ediv_of_nonneg (by omega), wr (by omega)]

theorem abs_pos (a : Int) (h : 0 ≤ a ∧ a ≤ 9000000000000000000) : impl_abs.f a = some a := by
  unfold impl_abs.f mx
  rw [wr (n := -a) (by omega)]
  rw [if_neg (by omega)]
theorem abs_neg (a : Int) (h : 0 ≤ a ∧ a ≤ 9000000000000000000) : impl_abs.f (-a) = some a := by
  unfold impl_abs.f mx
  rw [wr (n := - -a) (by omega)]
  split
  · congr 1; omega
  · congr 1; omega

theorem divRound_eq (a b : Int) (ha : -1000000000000000000 ≤ a ∧ a ≤ 1000000000000000000) (hb : -1000000000000000000 ≤ b ∧ b ≤ 1000000000000000000) (h0 : b ≠ 0) :
    impl_divRound.f a b = some (divR a b) := by
  unfold impl_divRound.f divR
  rw [if_neg h0]
  have key : ∀ A B : Int, 0 ≤ A → 0 < B → A ≤ 1000000000000000000 → B ≤ 1000000000000000000 →
      (0 ≤ A % B ∧ A % B < B ∧ wrap64 (B - A % B) = B - A % B ∧ 0 ≤ A / B ∧ A / B ≤ A) := by
    intro A B hA hB h1 h2
    have e0 := Int.emod_nonneg A (show B ≠ 0 by omega)
    have e1 := Int.emod_lt_of_pos A hB
    have e2 := ediv_le_self' A B hA hB
    exact ⟨e0, e1, wr (by omega), e2.1, e2.2⟩
  by_cases c : b < 0
  · rw [if_pos c]
    by_cases d : a > 0
    · obtain ⟨k0, k1, k2, k3, k4⟩ := key a (-b) (by omega) (by omega) (by omega) (by omega)
      have t1 : Int.tmod a b = a % -b := by rw [← Int.tmod_neg, Int.tmod_eq_emod_of_nonneg (by omega)]
      have t2 : Int.tdiv a b = -(a / -b) := by rw [← Int.tdiv_eq_ediv_of_nonneg (by omega), Int.tdiv_neg, Int.neg_neg]
      rw [t1, t2, if_pos d, abs_pos (a % -b) (by omega), Option.bind_some, show b = - -b by omega, abs_neg (-b) (by omega), Option.bind_some]
      simp only [Int.neg_neg]
      rw [k2, div_core a (-b) (by omega) (by omega)]
      have s1 : decide (a < 0) = false := decide_eq_false (by omega)
      have s2 : decide (b < 0) = true := decide_eq_true (by omega)
      rw [s1, s2]
      split
      · rw [if_neg (by decide), wr (n := -(a / -b)) (by omega), wr (by omega)]; congr 1; omega
      · rw [wr (by omega)]
    · obtain ⟨k0, k1, k2, k3, k4⟩ := key (-a) (-b) (by omega) (by omega) (by omega) (by omega)
      have t1 : Int.tmod a b = -(-a % -b) := by
        rw [← Int.tmod_eq_emod_of_nonneg (by omega), Int.tmod_neg, Int.neg_tmod, Int.neg_neg]
      have t2 : Int.tdiv a b = -a / -b := by rw [← Int.tdiv_eq_ediv_of_nonneg (by omega), Int.tdiv_neg, Int.neg_tdiv, Int.neg_neg]
      rw [t1, t2, if_neg d, abs_neg (-a % -b) (by omega), Option.bind_some, show b = - -b by omega, abs_neg (-b) (by omega), Option.bind_some]
      simp only [Int.neg_neg]
      rw [k2, div_core (-a) (-b) (by omega) (by omega)]
      split
      · rename_i hh
        have ha0 : a < 0 := by
          by_cases e : a = 0
          · subst e; simp at hh; omega
          · omega
        have s1 : decide (a < 0) = true := decide_eq_true (by omega)
        have s2 : decide (b < 0) = true := decide_eq_true (by omega)
        rw [s1, s2, if_pos (by decide), wr (n := -a / -b) (by omega), wr (by omega)]
      · rw [wr (by omega)]
  · rw [if_neg c]
    by_cases d : a < 0
    · obtain ⟨k0, k1, k2, k3, k4⟩ := key (-a) b (by omega) (by omega) (by omega) (by omega)
      have t1 : Int.tmod a b = -(-a % b) := by
        rw [← Int.tmod_eq_emod_of_nonneg (by omega), Int.neg_tmod, Int.neg_neg]
      have t2 : Int.tdiv a b = -(-a / b) := by rw [← Int.tdiv_eq_ediv_of_nonneg (by omega), Int.neg_tdiv, Int.neg_neg]
      rw [t1, t2, if_pos d, abs_neg (-a % b) (by omega), Option.bind_some, abs_pos b (by omega), Option.bind_some]
      rw [k2, div_core (-a) b (by omega) (by omega)]
      have s1 : decide (a < 0) = true := decide_eq_true (by omega)
      have s2 : decide (b < 0) = false := decide_eq_false (by omega)
      rw [s1, s2]
      split
      · rw [if_neg (by decide), wr (n := -(-a / b)) (by omega), wr (by omega)]; congr 1; omega
      · rw [wr (by omega)]
    · obtain ⟨k0, k1, k2, k3, k4⟩ := key a b (by omega) (by omega) (by omega) (by omega)
      rw [Int.tmod_eq_emod_of_nonneg (by omega), Int.tdiv_eq_ediv_of_nonneg (by omega), if_neg d, abs_pos (a % b) (by omega), Option.bind_some, abs_pos b (by omega), Option.bind_some]
      rw [k2, div_core a b (by omega) (by omega)]
      have s1 : decide (a < 0) = false := decide_eq_false (by omega)
      have s2 : decide (b < 0) = false := decide_eq_false (by omega)
      rw [s1, s2]
      split
      · rw [if_pos (by decide), wr (n := a / b) (by omega), wr (by omega)]
      · rw [wr (by omega)]

/-- The octave of a ratio: what both tell, for all rounds from some on. -/
theorem octave_all (x y : Int) (hx : 1 ≤ x ∧ x ≤ 1000000) (hy : 1 ≤ y ∧ y ≤ 1000000) :
    ∃ r1 r2 r3, (∀ k, 3000001 ≤ k → spec_l02Octave.f k x y = some (r1, r2, r3) ∧ impl_Ratio_octave.f k x y = some (r1, r2, r3)) ∧ r2 ≤ r1 ∧ r1 < 2 * r2 ∧ 1 ≤ r2 ∧ r2 ≤ 1000000 ∧ -4000000 ≤ r3 ∧ r3 ≤ 4000000 := by
  obtain ⟨r1, r2, r3, e1, e2, h1, h2, h3, h4, h5, h6⟩ := octave_eq x y hx hy 3000001 (by omega)
  refine ⟨r1, r2, r3, fun k hk => ?_, h1, h2, h3, h4, h5, h6⟩
  obtain ⟨j, rfl⟩ : ∃ j, k = 3000001 + j := ⟨k - 3000001, by omega⟩
  clear hk
  induction j with
  | zero => exact ⟨e1, e2⟩
  | succ j ih => exact ⟨spec_l02Octave.mono _ _ _ _ ih.1, impl_Ratio_octave.mono _ _ _ _ ih.2⟩
theorem tab_facts : ∀ i : Nat, i < 32 → 0 ≤ rd centsTab i ∧ rd centsTab i ≤ rd centsTab ((i : Int) + 1) ∧ rd centsTab ((i : Int) + 1) ≤ 120000 := by decide +kernel
theorem divR_bound (a b : Int) (ha : 0 ≤ a) (hb : 0 < b) : 0 ≤ divR a b ∧ divR a b ≤ 2 * a + b := by
  unfold divR
  rw [if_neg (by omega), if_neg (by omega)]
  exact quot_bound a b ha hb
theorem k1 (t u m : Int) (t0 : 0 ≤ t) (t1 : t ≤ u) (t2 : u ≤ 120000) (m0 : 0 ≤ m) (m1 : m ≤ 1000000) : 0 ≤ (u - t) * m ∧ (u - t) * m ≤ 120000000000 := by
  have := Int.mul_le_mul (show u - t ≤ 120000 by omega) m1 m0 (by omega)
  exact ⟨Int.mul_nonneg (by omega) m0, by omega⟩
theorem k2 (t u : Int) (t0 : 0 ≤ t) (t1 : t ≤ u) (t2 : u ≤ 120000) : wrap64 (u - t) = u - t := wr (by omega)
theorem k3 (p : Int) (p0 : 0 ≤ p) (p1 : p ≤ 120000000000) : wrap64 p = p := wr (by omega)
theorem k4 (o t u : Int) (h5 : -4000000 ≤ o) (h6 : o ≤ 4000000) (t0 : 0 ≤ t) (t1 : t ≤ u) (t2 : u ≤ 120000) : wrap64 (120000 * o + t) = 120000 * o + t := wr (by omega)
theorem k5 (o t u r p d : Int) (h5 : -4000000 ≤ o) (h6 : o ≤ 4000000) (t0 : 0 ≤ t) (t1 : t ≤ u) (t2 : u ≤ 120000) (p1 : p ≤ 120000000000) (hd : d ≤ 1000000) (r0 : 0 ≤ r ∧ r ≤ 2 * p + d) : wrap64 (120000 * o + t + r) = 120000 * o + t + r := wr (by omega)
theorem k6 (o t u r p d : Int) (h5 : -4000000 ≤ o) (h6 : o ≤ 4000000) (t0 : 0 ≤ t) (t1 : t ≤ u) (t2 : u ≤ 120000) (p1 : p ≤ 120000000000) (hd : d ≤ 1000000) (r0 : 0 ≤ r ∧ r ≤ 2 * p + d) : -1000000000000 ≤ 120000 * o + t + r ∧ 120000 * o + t + r ≤ 1000000000000 := by omega
theorem k7 (p : Int) (p0 : 0 ≤ p) (p1 : p ≤ 120000000000) : -1000000000000000000 ≤ p ∧ p ≤ 1000000000000000000 := by omega
theorem k8 (i : Nat) (h : i < 32) : (0 ≤ (i : Int) ∧ (i : Int) < 32) ∧ (i : Int) < 33 ∧ 0 ≤ (i : Int) + 1 ∧ (i : Int) + 1 < 33 := by omega
/-- The cents of a ratio between 1 and 2 (and the octaves beside it). -/
def centsR (n d o : Int) : Int := 120000 * o + rd centsTab (32 * (n - d) / d) + divR ((rd centsTab (32 * (n - d) / d + 1) - rd centsTab (32 * (n - d) / d)) * (32 * (n - d) % d)) d
theorem cents_facts (n d : Int) (h1 : d ≤ n) (h2 : n < 2 * d) (h3 : 1 ≤ d) (h4 : d ≤ 1000000) :
    ∃ (i : Nat) (m : Int), i < 32 ∧ 32 * (n - d) / d = i ∧ 32 * (n - d) % d = m ∧ 0 ≤ m ∧ m < d ∧ 32 * (n - d) - (i : Int) * d = m ∧
      0 ≤ (rd centsTab ((i : Int) + 1) - rd centsTab i) * m ∧ (rd centsTab ((i : Int) + 1) - rd centsTab i) * m ≤ 120000000000 ∧ 0 ≤ (i : Int) * d ∧ (i : Int) * d ≤ 32000000 := by
  have q0 : 0 ≤ 32 * (n - d) / d := Int.ediv_nonneg (by omega) (by omega)
  have q1 : 32 * (n - d) / d < 32 := Int.ediv_lt_of_lt_mul (by omega) (by omega)
  have e : d * (32 * (n - d) / d) + 32 * (n - d) % d = 32 * (n - d) := Int.mul_ediv_add_emod _ _
  have m0 : 0 ≤ 32 * (n - d) % d := Int.emod_nonneg _ (by omega)
  have m1 : 32 * (n - d) % d < d := Int.emod_lt_of_pos _ (by omega)
  generalize 32 * (n - d) % d = m at *
  obtain ⟨i, hi⟩ : ∃ i : Nat, 32 * (n - d) / d = i := ⟨(32 * (n - d) / d).toNat, by omega⟩
  rw [hi] at e q0 q1
  obtain ⟨t0, t1, t2⟩ := tab_facts i (by omega)
  have p0 : 0 ≤ (i : Int) * d := Int.mul_nonneg (by omega) (by omega)
  rw [Int.mul_comm] at e
  have kk := k1 (rd centsTab i) (rd centsTab ((i : Int) + 1)) m t0 t1 t2 m0 (by clear t0 t1 t2; omega)
  clear t0 t1 t2
  exact ⟨i, m, by clear kk; omega, hi, rfl, m0, m1, by clear kk; omega, kk.1, kk.2, p0, by clear kk; omega⟩
theorem centsR_bound (n d o : Int) (h1 : d ≤ n) (h2 : n < 2 * d) (h3 : 1 ≤ d) (h4 : d ≤ 1000000) (h5 : -4000000 ≤ o) (h6 : o ≤ 4000000) : -1000000000000 ≤ centsR n d o ∧ centsR n d o ≤ 1000000000000 := by
  obtain ⟨i, m, hi, e1, e2, m0, m1, _, p0, p1, _, _⟩ := cents_facts n d h1 h2 h3 h4
  obtain ⟨t0, t1, t2⟩ := tab_facts i hi
  unfold centsR
  rw [e1, e2]
  exact k6 _ _ _ _ _ d h5 h6 t0 t1 t2 p1 h4 (divR_bound _ d p0 (by clear t0 t1 t2 p0 p1; omega))
theorem impl_at_eq (n d o : Int) (h1 : d ≤ n) (h2 : n < 2 * d) (h3 : 1 ≤ d) (h4 : d ≤ 1000000) (h5 : -4000000 ≤ o) (h6 : o ≤ 4000000) : impl_Ratio_cents.at n d o = some (centsR n d o) := by
  obtain ⟨i, m, hi, e1, e2, m0, m1, e3, p0, p1, p2, p3⟩ := cents_facts n d h1 h2 h3 h4
  obtain ⟨t0, t1, t2⟩ := tab_facts i hi
  have hb := divR_bound _ d p0 (by clear t0 t1 t2 p0 p1; omega)
  have c0 : ¬ d = 0 := by clear t0 t1 t2 p0 p1 hb; omega
  have b0 : -1000000000000000000 ≤ d ∧ d ≤ 1000000000000000000 := by clear t0 t1 t2 p0 p1 hb; omega
  have w5 := k2 _ _ t0 t1 t2
  have w8 := k3 _ p0 p1
  have w10 := k4 o _ _ h5 h6 t0 t1 t2
  have w9 : wrap64 (120000 * o) = 120000 * o := wr (by clear t0 t1 t2 p0 p1 hb w5 w8 w10; omega)
  have w11 := k5 o _ _ _ _ d h5 h6 t0 t1 t2 p1 h4 hb
  have w12 := k7 _ p0 p1
  clear t0 t1 t2 p0 p1 hb
  have w1 : wrap64 (n - d) = n - d := wr (by clear w5 w8 w10 w11 w12; omega)
  have w2 : wrap64 (32 * (n - d)) = 32 * (n - d) := wr (by clear w5 w8 w10 w11 w12; omega)
  have w3 : wrap64 (Int.tdiv (32 * (n - d)) d) = i := by clear w5 w8 w10 w11 w12; rw [Int.tdiv_eq_ediv_of_nonneg (by omega), e1]; exact wr (by omega)
  have w4 : wrap64 ((i : Int) + 1) = (i : Int) + 1 := wr (by clear w5 w8 w10 w11 w12; omega)
  have w6 : wrap64 ((i : Int) * d) = (i : Int) * d := wr (by clear w5 w8 w10 w11 w12; omega)
  have w7 : wrap64 m = m := wr (by clear w5 w8 w10 w11 w12; omega)
  have c1 := (k8 i hi).1
  unfold impl_Ratio_cents.at centsR
  rw [if_neg c0, w1, w2, w3, if_pos c1, w4, w5, w6, e3, w7, w8, divRound_eq _ d w12 b0 c0, Option.bind_some, w9, w10, e1, e2]
  rw [w11]
theorem spec_at_eq (k : Nat) (a b n d o : Int) (ho : spec_l02Octave.f k a b = some (n, d, o)) (h1 : d ≤ n) (h2 : n < 2 * d) (h3 : 1 ≤ d) (h4 : d ≤ 1000000) (h5 : -4000000 ≤ o) (h6 : o ≤ 4000000) : spec_l02Cents.f k a b = some (centsR n d o) := by
  obtain ⟨i, m, hi, e1, e2, m0, m1, e3, p0, p1, p2, p3⟩ := cents_facts n d h1 h2 h3 h4
  obtain ⟨t0, t1, t2⟩ := tab_facts i hi
  have hb := divR_bound _ d p0 (by clear t0 t1 t2 p0 p1; omega)
  have c0 : ¬ d = 0 := by clear t0 t1 t2 p0 p1 hb; omega
  have b0 : -1000000000000000000 ≤ d ∧ d ≤ 1000000000000000000 := by clear t0 t1 t2 p0 p1 hb; omega
  have w5 := k2 _ _ t0 t1 t2
  have w8 := k3 _ p0 p1
  have w10 := k4 o _ _ h5 h6 t0 t1 t2
  have w9 : wrap64 (120000 * o) = 120000 * o := wr (by clear t0 t1 t2 p0 p1 hb w5 w8 w10; omega)
  have w11 := k5 o _ _ _ _ d h5 h6 t0 t1 t2 p1 h4 hb
  have w12 := k7 _ p0 p1
  clear t0 t1 t2 p0 p1 hb
  have w1 : wrap64 (n - d) = n - d := wr (by clear w5 w8 w10 w11 w12; omega)
  have w2 : wrap64 (32 * (n - d)) = 32 * (n - d) := wr (by clear w5 w8 w10 w11 w12; omega)
  have w3 : wrap64 (Int.tdiv (32 * (n - d)) d) = i := by clear w5 w8 w10 w11 w12; rw [Int.tdiv_eq_ediv_of_nonneg (by omega), e1]; exact wr (by omega)
  have w4 : wrap64 ((i : Int) + 1) = (i : Int) + 1 := wr (by clear w5 w8 w10 w11 w12; omega)
  have w6 : wrap64 ((i : Int) * d) = (i : Int) * d := wr (by clear w5 w8 w10 w11 w12; omega)
  have w7 : wrap64 m = m := wr (by clear w5 w8 w10 w11 w12; omega)
  have l33 : (centsTab.length : Int) = 33 := by rfl
  obtain ⟨⟨c1, _⟩, c2, c3, c4⟩ := k8 i hi
  have ht : spec_l02Table.f = some centsTab := rfl
  unfold spec_l02Cents.f centsR
  rw [ho, Option.bind_some, ht, Option.bind_some]
  dsimp only
  rw [if_neg c0, w1, w2, w3, l33, if_pos c1, if_pos c2, w4, if_pos c3, if_pos c4, w5, w6, e3, w7, w8, l01Div_eq _ d w12 b0 c0, Option.bind_some, w9, w10, e1, e2]
  rw [w11]
/-- The cents of a valid ratio: both tell the same, for all rounds from some on. -/
theorem cents_eq (a b : Int) (ha : 1 ≤ a ∧ a ≤ 1000000) (hb : 1 ≤ b ∧ b ≤ 1000000) :
    ∃ c, -1000000000000 ≤ c ∧ c ≤ 1000000000000 ∧ ∀ k, 3000001 ≤ k → spec_l02Cents.f k a b = some c ∧ impl_Ratio_cents.f k a b = some c := by
  obtain ⟨n, d, o, h, h1, h2, h3, h4, h5, h6⟩ := octave_all a b ha hb
  obtain ⟨c1, c2⟩ := centsR_bound n d o h1 h2 h3 h4 h5 h6
  refine ⟨centsR n d o, c1, c2, fun k hk => ⟨spec_at_eq k a b n d o (h k hk).1 h1 h2 h3 h4 h5 h6, ?_⟩⟩
  unfold impl_Ratio_cents.f
  rw [(h k hk).2, Option.bind_some]
  exact impl_at_eq n d o h1 h2 h3 h4 h5 h6

/-- The tone of a pitch, its place among the twelve, and its octave. -/
theorem pitch_parts (p : Int) (h : -12 ≤ p ∧ p ≤ 23) : ∃ t o : Int, Int.tmod (wrap64 (Int.tmod p 12 + 12)) 12 = t ∧ wrap64 (Int.tdiv (wrap64 (p - t)) 12) = o ∧ (0 ≤ t ∧ t ≤ 11) ∧ (o = -1 ∨ o = 0 ∨ o = 1) := by
  refine ⟨_, _, rfl, rfl, ?_, ?_⟩
  · have : ∀ n : Fin 36, 0 ≤ Int.tmod (wrap64 (Int.tmod ((n.val : Int) - 12) 12 + 12)) 12 ∧ Int.tmod (wrap64 (Int.tmod ((n.val : Int) - 12) 12 + 12)) 12 ≤ 11 := by decide +kernel
    have h2 := this ⟨(p + 12).toNat, by omega⟩
    have e : (((p + 12).toNat : Nat) : Int) - 12 = p := by omega
    simp only [e] at h2; exact h2
  · have : ∀ n : Fin 36, (fun p : Int => wrap64 (Int.tdiv (wrap64 (p - Int.tmod (wrap64 (Int.tmod p 12 + 12)) 12)) 12) = -1 ∨ wrap64 (Int.tdiv (wrap64 (p - Int.tmod (wrap64 (Int.tmod p 12 + 12)) 12)) 12) = 0 ∨ wrap64 (Int.tdiv (wrap64 (p - Int.tmod (wrap64 (Int.tmod p 12 + 12)) 12)) 12) = 1) ((n.val : Int) - 12) := by decide +kernel
    have h2 := this ⟨(p + 12).toNat, by omega⟩
    have e : (((p + 12).toNat : Nat) : Int) - 12 = p := by omega
    simp only [e] at h2; exact h2

theorem tcents_eq (a : ByteArray) (l : List S59) (g : GoodT l) (p : Int) (hp : -12 ≤ p ∧ p ≤ 23) :
    ∃ c, -3000000000000 ≤ c ∧ c ≤ 3000000000000 ∧ ∀ k, 3000001 ≤ k → spec_l04Cents.f k a l p = some c ∧ impl_Tuning_cents.f k a l p = some c := by
  obtain ⟨t, o, e1, e2, ht, ho⟩ := pitch_parts p hp
  obtain ⟨⟨v1, v2, _⟩, _⟩ := g.el t.toNat (by omega)
  rw [show ((t.toNat : Nat) : Int) = t by omega] at v1 v2
  obtain ⟨c, c1, c2, hc⟩ := cents_eq _ _ v1 v2
  have hl := g.len
  have q1 : 0 ≤ t := ht.1
  have q2 : t < (l.length : Int) := by omega
  have w1 : wrap64 (120000 * o) = 120000 * o := wr (by omega)
  have w2 : wrap64 (120000 * o + c) = 120000 * o + c := wr (by omega)
  refine ⟨120000 * o + c, by omega, by omega, fun k hk => ?_⟩
  unfold spec_l04Cents.f impl_Tuning_cents.f spec_l03Floor.f impl_octaveOf.f spec_l03Tone.f impl_ToneOf.f
  simp only [e1, Option.bind_some, e2, if_pos q1, if_pos q2, (hc k hk).1, (hc k hk).2, w1, w2]
  exact ⟨trivial, trivial⟩

/-- The numbers from m on, n of them. -/
def seqI : Nat → Int → List Int
  | 0, _ => []
  | n + 1, m => m :: seqI n (m + 1)
theorem seqI_length (n : Nat) : ∀ m, (seqI n m).length = n := by
  induction n with
  | zero => intro m; rfl
  | succ n ih => intro m; simp [seqI, ih]
theorem mark_l0 (d : Nat) : ∀ (k i : Nat) (m : Int) (pre post : List Int), pre.length = i → post.length = d → i + d ≤ 1048576 → 0 ≤ m → m + d ≤ 2000000 → d < k →
    laws_markInt64S.l0 k (pre ++ post) m i = some (m + d, pre ++ seqI d m) := by
  induction d with
  | zero =>
    intro k i m pre post h2 h3 h4 h5 h6 hk
    obtain ⟨k, rfl⟩ : ∃ m, k = m + 1 := ⟨k - 1, by omega⟩
    obtain rfl := List.length_eq_zero_iff.1 h3
    simp only [laws_markInt64S.l0]; rw [if_neg (by simp; omega)]; simp [seqI]
  | succ d ih =>
    intro k i m pre post h2 h3 h4 h5 h6 hk
    obtain ⟨k, rfl⟩ : ∃ m, k = m + 1 := ⟨k - 1, by omega⟩
    cases post with
    | nil => simp at h3
    | cons x post =>
      have hp : post.length = d := by simpa using h3
      have hlen : (pre ++ x :: post).length = i + d + 1 := by simp; omega
      simp only [laws_markInt64S.l0]
      rw [if_pos (by omega), if_pos (by omega), wr (n := m + 1) (by omega), wr (n := (i : Int) + 1) (by omega), Int.toNat_natCast, List.set_append_right _ _ (by omega), h2, Nat.sub_self, List.set_cons_zero, show ((i : Int) + 1) = ((i + 1 : Nat) : Int) by omega]
      have := ih k (i + 1) (m + 1) (pre ++ [m]) post (by simp [h2]) hp (by omega) (by omega) (by omega) (by omega)
      rw [List.append_assoc] at this
      rw [show m :: post = [m] ++ post from rfl, this]
      congr 2
      · omega
      · simp [seqI]
theorem mark_eq (k : Nat) (l : List Int) (hl : l.length ≤ 1048576) (hk : l.length < k) : laws_markInt64S.f k l 1 = some (1 + (l.length : Int), seqI l.length 1) := by
  unfold laws_markInt64S.f
  have := mark_l0 l.length k 0 1 [] l rfl rfl (by omega) (by omega) (by omega) hk
  simpa using this
theorem held_l0 (d : Nat) : ∀ (k i : Nat) (m : Int) (pre : List Int), pre.length = i → i + d ≤ 1048576 → 0 ≤ m → m + d ≤ 2000000 → d < k →
    laws_heldInt64S.l0 k (pre ++ seqI d m) m i = some (m + d) := by
  induction d with
  | zero =>
    intro k i m pre h2 h4 h5 h6 hk
    obtain ⟨k, rfl⟩ : ∃ m, k = m + 1 := ⟨k - 1, by omega⟩
    have hl : (pre ++ seqI 0 m).length = i := by simp [seqI, h2]
    simp only [laws_heldInt64S.l0]; rw [if_neg (by omega)]; simp
  | succ d ih =>
    intro k i m pre h2 h4 h5 h6 hk
    obtain ⟨k, rfl⟩ : ∃ m, k = m + 1 := ⟨k - 1, by omega⟩
    have hlen : (pre ++ seqI (d + 1) m).length = i + d + 1 := by rw [List.length_append, seqI_length]; omega
    have hr : rd (pre ++ seqI (d + 1) m) i = m := by
      unfold rd
      rw [Int.toNat_natCast, List.getD_eq_getElem?_getD, List.getElem?_append_right (by omega), h2, Nat.sub_self]
      rfl
    simp only [laws_heldInt64S.l0]
    rw [if_pos (by omega), if_pos (by omega), if_pos hr, wr (n := m + 1) (by omega), wr (n := (i : Int) + 1) (by omega), show ((i : Int) + 1) = ((i + 1 : Nat) : Int) by omega]
    have := ih k (i + 1) (m + 1) (pre ++ [m]) (by simp [h2]) (by omega) (by omega) (by omega) (by omega)
    rw [List.append_assoc] at this
    rw [show seqI (d + 1) m = [m] ++ seqI d (m + 1) from rfl, this]
    congr 1; omega
theorem held_eq (k n : Nat) (hl : n ≤ 1048576) (hk : n < k) : laws_heldInt64S.f k (seqI n 1) 1 = some (1 + (n : Int)) := by
  unfold laws_heldInt64S.f
  have := held_l0 n k 0 1 [] rfl (by omega) (by omega) (by omega) hk
  simpa using this

theorem eqInts_l0 (a b : List Int) (hl : a.length ≤ 1048576) (he : a.length = b.length) (d : Nat) : ∀ (k i : Nat), a.length = i + d → d < k →
    ∃ r, laws_eqInt64S.l0 k a b i = some r ∧ (r = true ↔ ∀ j : Nat, i ≤ j → j < a.length → rd a j = rd b j) := by
  induction d with
  | zero =>
    intro k i hd hk
    obtain ⟨k, rfl⟩ : ∃ m, k = m + 1 := ⟨k - 1, by omega⟩
    exact ⟨true, by simp only [laws_eqInt64S.l0]; rw [if_neg (by omega)], by simp; intro j h1 h2; omega⟩
  | succ d ih =>
    intro k i hd hk
    obtain ⟨k, rfl⟩ : ∃ m, k = m + 1 := ⟨k - 1, by omega⟩
    simp only [laws_eqInt64S.l0]
    rw [if_pos (by omega), if_pos (by omega), if_pos (by omega), wr (n := (i : Int) + 1) (by omega), show ((i : Int) + 1) = ((i + 1 : Nat) : Int) by omega]
    obtain ⟨r, hr, hiff⟩ := ih k (i + 1) (by omega) (by omega)
    by_cases hc : rd a i = rd b i
    · refine ⟨r, by rw [if_pos hc, hr], ?_⟩
      rw [hiff]
      constructor
      · intro h j h1 h2
        by_cases e : j = i
        · subst e; exact hc
        · exact h j (by omega) h2
      · intro h j h1 h2; exact h j (by omega) h2
    · exact ⟨false, by rw [if_neg hc], by simp; exact ⟨i, by omega, by omega, hc⟩⟩
theorem rd_nat (l : List Int) (j : Nat) : rd l j = l.getD j 0 := rfl
theorem rd_lt (l : List Int) (j : Nat) (h : j < l.length) : rd l j = l[j] := by rw [rd_nat]; simp [List.getD_eq_getElem?_getD, h]
theorem eqInts_eq (k : Nat) (a b : List Int) (hl : a.length ≤ 1048576) (hk : a.length < k) : laws_eqInt64S.f k a b = some (decide (a = b)) := by
  unfold laws_eqInt64S.f
  by_cases h : (a.length : Int) = (b.length : Int)
  · rw [if_pos h]
    obtain ⟨r, hr, hiff⟩ := eqInts_l0 a b hl (by omega) a.length k 0 (by omega) hk
    rw [show ((0 : Int)) = ((0 : Nat) : Int) by rfl, hr]; congr 1; rw [Bool.eq_iff_iff, hiff, decide_eq_true_iff]
    constructor
    · intro hh
      apply List.ext_getElem (by omega)
      intro j h1 h2
      have := hh j (by omega) h1
      rwa [rd_lt a j h1, rd_lt b j h2] at this
    · rintro rfl j _ _; rfl
  · rw [if_neg h]; congr 1; symm; rw [decide_eq_false_iff_not]; rintro rfl; exact h rfl
theorem eqInts_self (k : Nat) (a : List Int) (hl : a.length ≤ 1048576) (hk : a.length < k) : laws_eqInt64S.f k a a = some true := by
  rw [eqInts_eq k a a hl hk]; simp

theorem tc_fun (a : ByteArray) (l : List S59) (g : GoodT l) : ∃ o : Nat → Int, ∀ i : Nat, i < 12 → (-4000000000000 ≤ o i ∧ o i ≤ 4000000000000) ∧ ∀ k, 3000001 ≤ k → spec_l04Cents.f k a l i = some (o i) ∧ impl_Tuning_cents.f k a l i = some (o i) := by
  refine ⟨fun i => if h : i < 12 then Classical.choose (tcents_eq a l g i (by omega)) else 0, fun i hi => ?_⟩
  simp only [dif_pos hi]
  have := Classical.choose_spec (tcents_eq a l g i (by omega))
  exact ⟨⟨by omega, by omega⟩, this.2.2⟩
def outs (o : Nat → Int) (n : Nat) : List Int := (List.range n).map fun i => o i - 10000 * (i : Int)
theorem outs_succ (o : Nat → Int) (n : Nat) : outs o (n + 1) = outs o n ++ [o n - 10000 * (n : Int)] := by unfold outs; rw [List.range_succ, List.map_append]; rfl
theorem outs_length (o : Nat → Int) (n : Nat) : (outs o n).length = n := by unfold outs; simp
theorem ee_l0 (a : ByteArray) (l : List S59) (o : Nat → Int) (ho : ∀ i : Nat, i < 12 → (-4000000000000 ≤ o i ∧ o i ≤ 4000000000000) ∧ ∀ k, 3000001 ≤ k → spec_l04Cents.f k a l i = some (o i) ∧ impl_Tuning_cents.f k a l i = some (o i)) (d : Nat) : ∀ (i : Nat), 12 = i + d →
    ∀ k, 3000001 + d < k → spec_EqualErrors.l0 k (outs o i) i a l = some (outs o 12, 0) ∧ impl_EqualErrors.l0 k (outs o i ++ List.replicate (12 - i) 0) 12 i a l = some (outs o 12, 0) := by
  induction d with
  | zero =>
    intro i hd k hk
    obtain ⟨k, rfl⟩ : ∃ m, k = m + 1 := ⟨k - 1, by omega⟩
    obtain rfl : i = 12 := by omega
    have e : ¬ ((12 : Nat) : Int) < 12 := by omega
    simp only [spec_EqualErrors.l0, impl_EqualErrors.l0]
    rw [if_neg e, if_neg e]
    simp
  | succ d ih =>
    intro i hd k hk
    obtain ⟨k, rfl⟩ : ∃ m, k = m + 1 := ⟨k - 1, by omega⟩
    obtain ⟨hb, hc⟩ := ho i (by omega)
    have e : (i : Int) < 12 := by omega
    have e0 : 0 ≤ (i : Int) := by omega
    have ew : wrap64 ((i : Int) + 1) = ((i + 1 : Nat) : Int) := by rw [wr (n := (i : Int) + 1) (by omega)]; omega
    have wn : wrap64 (o i - wrap64 (10000 * (i : Int))) = o i - 10000 * (i : Int) := by rw [wr (n := 10000 * (i : Int)) (by omega)]; exact wr (by omega)
    have hl := outs_length o i
    have q : (outs o i).length < 17592186044416 := by omega
    have q2 : (i : Int) < ((outs o i ++ List.replicate (12 - i) (0 : Int)).length : Int) := by rw [List.length_append, hl, List.length_replicate]; omega
    obtain ⟨i1, i2⟩ := ih (i + 1) (by omega) k (by omega)
    have hs : (outs o i ++ List.replicate (12 - i) (0 : Int)).set i (o i - 10000 * (i : Int)) = outs o (i + 1) ++ List.replicate (12 - (i + 1)) 0 := by
      rw [show 12 - i = (12 - (i + 1)) + 1 by omega, List.replicate_succ, List.set_append_right _ _ (by omega), hl, Nat.sub_self, List.set_cons_zero, outs_succ, List.append_assoc]; rfl
    simp only [spec_EqualErrors.l0, impl_EqualErrors.l0]
    rw [if_pos e, if_pos e, (hc k (by omega)).1, (hc k (by omega)).2, Option.bind_some, Option.bind_some, wn, if_pos q, ew, if_pos e0, if_pos q2, Int.toNat_natCast, hs, ← outs_succ]
    exact ⟨i1, i2⟩
theorem equalErrors_eq (a : ByteArray) (l : List S59) : ∃ r : List Int × Int, r.1.length ≤ 1048576 ∧ ∀ k, 3000100 < k → spec_EqualErrors.f k a l = some r ∧ impl_EqualErrors.f k a l = some r := by
  obtain ⟨v, hv, hg⟩ := tuning_eq a l
  unfold spec_EqualErrors.f impl_EqualErrors.f
  cases v with
  | false => exact ⟨([], 1), by simp, fun k hk => by rw [(hv k (by omega)).1, (hv k (by omega)).2]; exact ⟨rfl, rfl⟩⟩
  | true =>
    obtain ⟨o, ho⟩ := tc_fun a l (hg rfl)
    refine ⟨(outs o 12, 0), by dsimp only; rw [outs_length]; omega, fun k hk => ?_⟩
    obtain ⟨h1, h2⟩ := ee_l0 a l o ho 12 0 (by omega) k (by omega)
    have e : (12 : Nat) ≤ 35184372088832 := by omega
    have z : outs o 0 = [] := rfl
    rw [z] at h1 h2
    simp only [Int.natCast_zero, List.nil_append, Nat.sub_zero] at h1 h2
    rw [(hv k (by omega)).1, (hv k (by omega)).2]
    simp only [Option.bind_some, if_true, List.length_replicate]
    refine ⟨h1, ?_⟩
    first | exact h2 | (rw [if_pos (by decide)]; exact h2) | (simp; exact h2)
theorem markT_l0 (d : Nat) : ∀ (k i : Nat) (m : Int) (x : List S59), x.length = i + d → 0 ≤ m → m + 2 * d ≤ 10000000 → i + d ≤ 2000000 → d < k → ∃ y, laws_markRatioS.l0 k x m i = some (m + 2 * d, y) := by
  induction d with
  | zero =>
    intro k i m x hd h0 hm hi hk
    obtain ⟨k, rfl⟩ : ∃ m, k = m + 1 := ⟨k - 1, by omega⟩
    have e : ¬ (i : Int) < (x.length : Int) := by omega
    refine ⟨x, ?_⟩
    simp only [laws_markRatioS.l0]
    rw [if_neg e]; simp
  | succ d ih =>
    intro k i m x hd h0 hm hi hk
    obtain ⟨k, rfl⟩ : ∃ m, k = m + 1 := ⟨k - 1, by omega⟩
    have e : (i : Int) < (x.length : Int) := by omega
    have e0 : 0 ≤ (i : Int) := by omega
    have w1 : wrap64 (m + 1) = m + 1 := wr (by omega)
    have w2 : wrap64 (m + 1 + 1) = m + 1 + 1 := wr (by omega)
    have w3 : wrap64 ((i : Int) + 1) = ((i + 1 : Nat) : Int) := by rw [wr (n := (i : Int) + 1) (by omega)]; omega
    simp only [laws_markRatioS.l0]
    rw [if_pos e, if_pos e0, Option.bind_some, w1, w2, w3]
    obtain ⟨y, hy⟩ := ih k (i + 1) (m + 1 + 1) (((x.set (i : Int).toNat (⟨m, (rd_T59 x i).f1⟩ : S59))).set (i : Int).toNat (⟨(rd_T59 (x.set (i : Int).toNat (⟨m, (rd_T59 x i).f1⟩ : S59)) i).f0, m + 1⟩ : S59)) (by simp; omega) (by omega) (by omega) (by omega) (by omega)
    refine ⟨y, ?_⟩
    rw [hy]; congr 2; omega
theorem markTuning_eq (k : Nat) (a : ByteArray) (x : List S59) (hx : x.length ≤ 1048576) (hk : x.length < k) : ∃ m y, 0 ≤ m ∧ laws_markTuning.f k a x 1 = some (m, y) := by
  obtain ⟨y, hy⟩ := markT_l0 x.length k 0 1 x (by omega) (by omega) (by omega) (by omega) hk
  refine ⟨1 + 2 * (x.length : Int), y, by omega, ?_⟩
  unfold laws_markTuning.f laws_markRatioS.f
  simp only [Int.natCast_zero] at hy
  rw [hy]; rfl
theorem FnExactEqualErrors : laws_FnExactEqualErrors.Pure := by
  intro a l ha hl
  refine ⟨4000003, ?_⟩
  unfold laws_FnExactEqualErrors.f
  obtain ⟨r, h1, h2⟩ := szTuning_eq a l 1048576 ha hl (by omega)
  rw [h1, Option.bind_some]
  by_cases c1 : r < 0
  · rw [if_pos c1]
  · have hll : l.length ≤ 1048576 := by omega
    have hml : (l.map toT).length ≤ 1048576 := by simp; omega
    have tt : ∀ k, 4000000 ≤ k → laws_toTuning.f k a l = some (a, l.map toT) := fun k hk => toTuning_eq k a l hll (by omega)
    have te : ∀ k, 4000000 ≤ k → laws_eqTuning.f k a (l.map toT) a (l.map toT) = some true := fun k hk => eqTuning_self k a _ hml (by simp; omega)
    obtain ⟨⟨r1, r2⟩, hlen, hq⟩ := equalErrors_eq a (l.map toT)
    obtain ⟨m, y, hm, hmm⟩ := markTuning_eq 4000002 a (l.map toT) hml (by simp; omega)
    dsimp only at hlen
    have ee : ∀ k, 4000000 ≤ k → laws_eqInt64S.f k r1 r1 = some true := fun k hk => eqInts_self k r1 hlen (by omega)
    have c2 : ¬ m < 0 := by omega
    have c3 : ¬ (1 + (r1.length : Int)) < 0 := by omega
    rw [if_neg c1, tt _ (by omega), Option.bind_some]
    dsimp only
    rw [(hq 4000003 (by omega)).1, Option.bind_some, Option.bind_some, (hq 4000003 (by omega)).2, Option.bind_some, ee _ (by omega), Option.bind_some, if_pos rfl, bne_self_eq_false]
    rw [show (4000003 : Nat) = 4000002 + 1 from rfl]
    simp only [laws_FnExactEqualErrors.j0, Bool.false_eq_true, if_false]
    rw [tt _ (by omega), Option.bind_some]
    dsimp only
    rw [te _ (by omega), Option.bind_some, if_pos rfl, hmm, Option.bind_some, if_neg c2, ee _ (by omega), Option.bind_some, if_pos rfl, bne_self_eq_false]
    rw [show (4000002 : Nat) = 4000001 + 1 from rfl]
    simp only [laws_FnExactEqualErrors.j1, Bool.false_eq_true, if_false]
    rw [mark_eq _ r1 hlen (by omega), Option.bind_some]
    dsimp only
    rw [held_eq _ _ hlen (by omega), Option.bind_some, if_neg c3, if_pos rfl, tt _ (by omega), Option.bind_some]
    dsimp only
    rw [(hq 4000001 (by omega)).2, Option.bind_some, ee _ (by omega), Option.bind_some, if_pos rfl, bne_self_eq_false]
    rw [show (4000001 : Nat) = 4000000 + 1 from rfl]
    simp only [laws_FnExactEqualErrors.j2, Bool.false_eq_true, if_false]
    rw [held_eq _ _ hlen (by omega), Option.bind_some, if_neg c3, if_pos rfl]

end Go.Proofs.YtigjcobannhdlaaDoor.Pure
