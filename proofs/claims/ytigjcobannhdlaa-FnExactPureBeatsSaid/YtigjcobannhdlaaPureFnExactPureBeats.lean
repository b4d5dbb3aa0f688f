/- Proved: the plain statement of the law FnExactPureBeats: the program's function and the reference's give the same answer. Conditions: none beyond the statement's own. -/
import Derived.Test.YtigjcobannhdlaaStmFnExactPureBeats
namespace Go.Proofs.Ytigjcobannhdlaa.Pure
open Go.RowKit Go.Proofs.Ytigjcobannhdlaa.PFnExactPureBeats Go.Proofs.YtigjcobannhdlaaW.PrintWords Go.Proofs.YtigjcobannhdlaaW.PrintLast
set_option linter.unusedVariables false
set_option linter.unusedSimpArgs false

theorem wr {n : Int} (h : -9223372036854775808 ≤ n ∧ n ≤ 9223372036854775807) : wrap64 n = n := by unfold wrap64; omega

def toT (x : S38) : S41 := ⟨x.f0, x.f1⟩
theorem rdT_lt (l : List S41) (j : Nat) (h : j < l.length) : rd_T41 l j = l[j] := by
  unfold rd_T41; rw [Int.toNat_natCast, List.getD_eq_getElem?_getD, List.getElem?_eq_getElem h]; rfl
theorem rdL_lt (l : List S38) (j : Nat) (h : j < l.length) : rd_T38 l j = l[j] := by
  unfold rd_T38; rw [Int.toNat_natCast, List.getD_eq_getElem?_getD, List.getElem?_eq_getElem h]; rfl
theorem toRatioS_l0 (l : List S38) (hl : l.length ≤ 1048576) (d : Nat) : ∀ (k i : Nat) (m : List S41), l.length = i + d → d < k →
    m = (l.take i).map toT ++ List.replicate (l.length - i) z41 → laws_toRatioS.l0 k l m i = some (l.map toT) := by
  induction d with
  | zero =>
    intro k i m hd hk hm
    obtain ⟨k, rfl⟩ : ∃ m, k = m + 1 := ⟨k - 1, by omega⟩
    simp only [laws_toRatioS.l0]; rw [if_neg (by omega), hm, show l.length - i = 0 by omega, List.take_of_length_le (by omega)]; simp
  | succ d ih =>
    intro k i m hd hk hm
    obtain ⟨k, rfl⟩ : ∃ m, k = m + 1 := ⟨k - 1, by omega⟩
    have hml : m.length = l.length := by subst hm; simp; omega
    simp only [laws_toRatioS.l0, laws_toRatio.f]
    rw [if_pos (by omega), if_pos (by omega)]
    simp only [Option.bind_some]
    rw [if_pos (by omega), wr (n := (i : Int) + 1) (by omega), show ((i : Int) + 1) = ((i + 1 : Nat) : Int) by omega]
    apply ih k (i + 1) _ (by omega) (by omega)
    have h1 : ((l.take i).map toT).length = i := by simp; omega
    rw [Int.toNat_natCast, hm, rdL_lt l i (by omega), List.take_succ_eq_append_getElem (by omega), show l.length - i = (l.length - (i + 1)) + 1 by omega, List.replicate_succ, List.set_append_right _ _ (by omega), h1, Nat.sub_self, List.set_cons_zero, List.map_append, List.append_assoc]
    rfl
theorem toRatioS_eq (k : Nat) (l : List S38) (hl : l.length ≤ 1048576) (hk : l.length < k) : laws_toRatioS.f k l = some (l.map toT) := by
  unfold laws_toRatioS.f
  rw [if_pos (by omega), if_pos (by omega)]
  exact toRatioS_l0 l hl l.length k 0 _ (by omega) hk (by simp)
theorem toTuning_eq (k : Nat) (a : ByteArray) (l : List S38) (hl : l.length ≤ 1048576) (hk : l.length < k) : laws_toTuning.f k a l = some (a, l.map toT) := by
  unfold laws_toTuning.f; rw [toRatioS_eq k l hl hk]; rfl
theorem eqRatioS_l0 (l : List S41) (hl : l.length ≤ 1048576) (d : Nat) : ∀ (k i : Nat), l.length = i + d → d < k → laws_eqRatioS.l0 k l l i = some true := by
  induction d with
  | zero =>
    intro k i hd hk
    obtain ⟨k, rfl⟩ : ∃ m, k = m + 1 := ⟨k - 1, by omega⟩
    simp only [laws_eqRatioS.l0]; rw [if_neg (by omega)]
  | succ d ih =>
    intro k i hd hk
    obtain ⟨k, rfl⟩ : ∃ m, k = m + 1 := ⟨k - 1, by omega⟩
    simp only [laws_eqRatioS.l0, laws_eqRatio.f]
    rw [if_pos (by omega), if_pos (by omega), if_pos (by omega)]
    simp only [if_true, Option.bind_some]
    rw [wr (n := (i : Int) + 1) (by omega), show ((i : Int) + 1) = ((i + 1 : Nat) : Int) by omega]
    exact ih k (i + 1) (by omega) (by omega)
theorem eqRatioS_self (k : Nat) (l : List S41) (hl : l.length ≤ 1048576) (hk : l.length < k) : laws_eqRatioS.f k l l = some true := by
  unfold laws_eqRatioS.f; rw [if_pos rfl]; exact eqRatioS_l0 l hl l.length k 0 (by omega) hk
theorem eqTuning_self (k : Nat) (a : ByteArray) (l : List S41) (hl : l.length ≤ 1048576) (hk : l.length < k) : laws_eqTuning.f k a l a l = some true := by
  unfold laws_eqTuning.f; rw [if_pos rfl, eqRatioS_self k l hl hk]; rfl
theorem szTuning_eq (a : ByteArray) (l : List S38) (left : Int) (ha : a.size ≤ maxLen) (hl : l.length ≤ maxLen) (h : 0 ≤ left ∧ left ≤ 1048576) :
    ∃ r, laws_szTuning.f a l left = some r ∧ (r < 0 ∨ (0 ≤ r ∧ (a.size : Int) + l.length + r = left)) := by
  unfold maxLen at ha hl
  unfold laws_szTuning.f laws_szRatioS.f
  rw [wr (n := left - (a.size : Int)) (by omega)]
  by_cases c1 : left - (a.size : Int) < 0
  · exact ⟨-1, by rw [if_pos c1], .inl (by omega)⟩
  · rw [if_neg c1, wr (n := left - (a.size : Int) - (l.length : Int)) (by omega)]
    by_cases c2 : left - (a.size : Int) - (l.length : Int) < 0
    · exact ⟨-1, by rw [if_pos c2]; rfl, .inl (by omega)⟩
    · exact ⟨left - (a.size : Int) - (l.length : Int), by rw [if_neg c2]; simp only [Option.bind_some]; rw [if_neg c2], .inr (by omega)⟩

theorem l00In_eq (a b c : Int) : spec_l00In.f a b c = some (decide (b ≤ a ∧ a ≤ c)) := by
  unfold spec_l00In.f
  by_cases h : a ≥ b <;> simp [h]

theorem within_eq (a b c : Int) : impl_within.f a b c = some (decide (b ≤ a ∧ a ≤ c)) := by
  unfold impl_within.f
  by_cases h : a ≥ b <;> simp [h]

theorem gcd_step (a b : Nat) : Nat.gcd b (a % b) = Nat.gcd a b := by
  rw [Nat.gcd_comm a b, Nat.gcd_rec b a, Nat.gcd_comm]
theorem l02Gcd_l0 (d : Nat) : ∀ (k a b : Nat), b ≤ d → d < k → spec_l02Gcd.l0 k (a : Int) (b : Int) = some (Nat.gcd a b : Int) := by
  induction d with
  | zero =>
    intro k a b hb hk
    obtain ⟨k, rfl⟩ : ∃ m, k = m + 1 := ⟨k - 1, by omega⟩
    obtain rfl : b = 0 := by omega
    simp [spec_l02Gcd.l0]
  | succ d ih =>
    intro k a b hb hk
    obtain ⟨k, rfl⟩ : ∃ m, k = m + 1 := ⟨k - 1, by omega⟩
    simp only [spec_l02Gcd.l0]
    by_cases h : (b : Int) = 0
    · rw [if_pos h]; obtain rfl : b = 0 := by omega
      simp
    · rw [if_neg h]
      have e : Int.tmod (a : Int) b = ((a % b : Nat) : Int) := rfl
      have hlt := Nat.mod_lt a (show b > 0 by omega)
      rw [e, ih k b (a % b) (by omega) (by omega), gcd_step]
theorem commonDivisor_l0 (d : Nat) : ∀ (k a b : Nat), b ≤ d → d < k → impl_commonDivisor.l0 k (a : Int) (b : Int) = some (Nat.gcd a b : Int) := by
  induction d with
  | zero =>
    intro k a b hb hk
    obtain ⟨k, rfl⟩ : ∃ m, k = m + 1 := ⟨k - 1, by omega⟩
    obtain rfl : b = 0 := by omega
    simp [impl_commonDivisor.l0]
  | succ d ih =>
    intro k a b hb hk
    obtain ⟨k, rfl⟩ : ∃ m, k = m + 1 := ⟨k - 1, by omega⟩
    simp only [impl_commonDivisor.l0]
    by_cases h : (b : Int) = 0
    · rw [if_pos h]; obtain rfl : b = 0 := by omega
      simp
    · rw [if_neg h]
      have e : Int.tmod (a : Int) b = ((a % b : Nat) : Int) := rfl
      have hlt := Nat.mod_lt a (show b > 0 by omega)
      rw [e, ih k b (a % b) (by omega) (by omega), gcd_step]
theorem l02Gcd_eq (k : Nat) (a b : Int) (ha : 0 ≤ a) (hb : 0 ≤ b) (hk : b.toNat < k) : spec_l02Gcd.f k a b = some (Nat.gcd a.toNat b.toNat : Int) := by
  unfold spec_l02Gcd.f
  have := l02Gcd_l0 b.toNat k a.toNat b.toNat (Nat.le_refl _) hk
  rwa [show ((a.toNat : Nat) : Int) = a by omega, show ((b.toNat : Nat) : Int) = b by omega] at this
theorem commonDivisor_eq (k : Nat) (a b : Int) (ha : 0 ≤ a) (hb : 0 ≤ b) (hk : b.toNat < k) : impl_commonDivisor.f k a b = some (Nat.gcd a.toNat b.toNat : Int) := by
  unfold impl_commonDivisor.f
  have := commonDivisor_l0 b.toNat k a.toNat b.toNat (Nat.le_refl _) hk
  rwa [show ((a.toNat : Nat) : Int) = a by omega, show ((b.toNat : Nat) : Int) = b by omega] at this
/-- Two numbers that are a valid ratio. -/
def RatOk (x y : Int) : Prop := (1 ≤ x ∧ x ≤ 1000000) ∧ (1 ≤ y ∧ y ≤ 1000000) ∧ Nat.gcd x.toNat y.toNat = 1
instance ratOkDec (x y : Int) : Decidable (RatOk x y) := by unfold RatOk; infer_instance
theorem one_beq (n : Nat) : (((n : Int) == 1) : Bool) = decide (n = 1) := by
  rw [Bool.eq_iff_iff, beq_iff_eq, decide_eq_true_iff]; omega
theorem l02Ok_eq (k : Nat) (x y : Int) (hk : 1000000 < k) : spec_l02Ok.f k x y = some (decide (RatOk x y)) := by
  unfold spec_l02Ok.f spec_l02Part.f
  rw [l00In_eq, l00In_eq]
  simp only [Option.bind_some]
  by_cases h1 : 1 ≤ x ∧ x ≤ 1000000
  · by_cases h2 : 1 ≤ y ∧ y ≤ 1000000
    · rw [l02Gcd_eq k x y (by omega) (by omega) (by omega)]
      simp only [Option.bind_some, decide_eq_true h1, decide_eq_true h2, if_true]
      rw [one_beq]; congr 1; simp [RatOk, h1, h2]
    · simp [h1, h2, RatOk]
  · simp [h1, RatOk]

theorem ValidRatio_eq (k : Nat) (x y : Int) (hk : 1000000 < k) : impl_ValidRatio.f k x y = some (decide (RatOk x y)) := by
  unfold impl_ValidRatio.f
  rw [within_eq, within_eq]
  simp only [Option.bind_some]
  by_cases h1 : 1 ≤ x ∧ x ≤ 1000000
  · by_cases h2 : 1 ≤ y ∧ y ≤ 1000000
    · rw [commonDivisor_eq k x y (by omega) (by omega) (by omega)]
      simp only [Option.bind_some, decide_eq_true h1, decide_eq_true h2, if_true]
      rw [one_beq]; congr 1; simp [RatOk, h1, h2]
    · simp [h1, h2, RatOk]
  · simp [h1, RatOk]

theorem bt_range (s : ByteArray) (i : Int) : 0 ≤ bt s i ∧ bt s i < 256 := by
  unfold bt
  split
  · constructor
    · omega
    · have := (s[i.toNat]'(by assumption)).toNat_lt; omega
  · omega

theorem bytes_nil (s : ByteArray) : s.toList = ([] : List UInt8) ↔ s.size = 0 := by
  rw [Go.ByteArray.toList_eq]
  have : s.data.toList.length = s.size := by cases s; rfl
  constructor
  · intro h; rw [h] at this; simpa using this.symm
  · intro h; exact List.length_eq_zero_iff.1 (by omega)

/-- A byte that a name may bear. -/
def nameB (c : Int) : Prop := (97 ≤ c ∧ c ≤ 122) ∨ (48 ≤ c ∧ c ≤ 57)
/-- A text that is a name. -/
def nameOk (s : ByteArray) : Prop := 1 ≤ s.size ∧ s.size ≤ 10 ∧ (97 ≤ bt s 0 ∧ bt s 0 ≤ 122) ∧ ∀ j : Nat, j < s.size → nameB (bt s j)

instance nameBDec (c : Int) : Decidable (nameB c) := by unfold nameB; infer_instance
instance nameOkDec (s : ByteArray) : Decidable (nameOk s) := by unfold nameOk; infer_instance
theorem small_eq (c : Int) : spec_l01Small.f c = some (decide (97 ≤ c ∧ c ≤ 122)) := by
  unfold spec_l01Small.f
  by_cases h : c ≥ 97 <;> simp [h]
theorem digit_eq (c : Int) : spec_l01Digit.f c = some (decide (48 ≤ c ∧ c ≤ 57)) := by
  unfold spec_l01Digit.f
  by_cases h : c ≥ 48 <;> simp [h]

theorem name_l0 (s : ByteArray) (hs : s.size ≤ 10) (d : Nat) : ∀ (k i : Nat), s.size = i + d → d < k →
    ∃ b, spec_l01Name.l0 k s i = some b ∧ (b = true ↔ ∀ j : Nat, i ≤ j → j < s.size → nameB (bt s j)) := by
  induction d with
  | zero =>
    intro k i hd hk
    obtain ⟨k, rfl⟩ : ∃ m, k = m + 1 := ⟨k - 1, by omega⟩
    exact ⟨true, by simp only [spec_l01Name.l0]; rw [if_neg (by omega)], by simp; intro j h1 h2; omega⟩
  | succ d ih =>
    intro k i hd hk
    obtain ⟨k, rfl⟩ : ∃ m, k = m + 1 := ⟨k - 1, by omega⟩
    simp only [spec_l01Name.l0]
    rw [if_pos (by omega), if_pos (by omega), small_eq, digit_eq, Option.bind_some, Option.bind_some, wr (n := (i : Int) + 1) (by omega)]
    obtain ⟨b, hb, hiff⟩ := ih k (i + 1) (by omega) (by omega)
    have hb' : spec_l01Name.l0 k s ((i : Int) + 1) = some b := by simpa using hb
    rw [hb']
    by_cases hc : nameB (bt s i)
    · refine ⟨b, ?_, ?_⟩
      · unfold nameB at hc
        rcases hc with hc | hc
        · simp [hc]
        · simp [hc]
      · rw [hiff]
        constructor
        · intro h j h1 h2
          by_cases e : j = i
          · subst e; exact hc
          · exact h j (by omega) h2
        · intro h j h1 h2; exact h j (by omega) h2
    · refine ⟨false, ?_, ?_⟩
      · unfold nameB at hc
        have c1 : ¬ (97 ≤ bt s i ∧ bt s i ≤ 122) := fun h => hc (Or.inl h)
        have c2 : ¬ (48 ≤ bt s i ∧ bt s i ≤ 57) := fun h => hc (Or.inr h)
        simp [c1, c2]
      · simp; exact ⟨i, by omega, by omega, hc⟩

theorem onlyName_l0 (s : ByteArray) (hs : s.size ≤ 10) (d : Nat) : ∀ (k i : Nat), s.size = i + d → d < k →
    ∃ b, impl_onlyNameBytes.l0 k s s.size i = some b ∧ (b = true ↔ ∀ j : Nat, i ≤ j → j < s.size → nameB (bt s j)) := by
  induction d with
  | zero =>
    intro k i hd hk
    obtain ⟨k, rfl⟩ : ∃ m, k = m + 1 := ⟨k - 1, by omega⟩
    exact ⟨true, by simp only [impl_onlyNameBytes.l0]; rw [if_neg (by omega)], by simp; intro j h1 h2; omega⟩
  | succ d ih =>
    intro k i hd hk
    obtain ⟨k, rfl⟩ : ∃ m, k = m + 1 := ⟨k - 1, by omega⟩
    simp only [impl_onlyNameBytes.l0]
    rw [if_pos (by omega), if_pos (by omega), if_pos (by omega), wr (n := (i : Int) + 1) (by omega)]
    obtain ⟨b, hb, hiff⟩ := ih k (i + 1) (by omega) (by omega)
    have hb' : impl_onlyNameBytes.l0 k s s.size ((i : Int) + 1) = some b := by simpa using hb
    rw [hb']
    by_cases hc : nameB (bt s i)
    · refine ⟨b, ?_, ?_⟩
      · unfold nameB at hc
        rcases hc with hc | hc
        · rw [if_neg (by omega), if_neg (by omega)]
        · rw [if_pos (by omega), if_neg (by omega), if_neg (by omega)]
      · rw [hiff]
        constructor
        · intro h j h1 h2
          by_cases e : j = i
          · subst e; exact hc
          · exact h j (by omega) h2
        · intro h j h1 h2; exact h j (by omega) h2
    · refine ⟨false, ?_, ?_⟩
      · unfold nameB at hc
        have c1 : ¬ (97 ≤ bt s i ∧ bt s i ≤ 122) := fun h => hc (Or.inl h)
        have c2 : ¬ (48 ≤ bt s i ∧ bt s i ≤ 57) := fun h => hc (Or.inr h)
        by_cases c3 : bt s i < 97
        · rw [if_pos c3]
          by_cases c4 : bt s i < 48
          · rw [if_pos c4]
          · rw [if_neg c4, if_pos (by omega)]
        · rw [if_neg c3, if_pos (by omega), if_neg (by omega), if_pos (by omega)]
      · simp; exact ⟨i, by omega, by omega, hc⟩

theorem l01Name_eq (k : Nat) (s : ByteArray) (hk : 20 < k) : spec_l01Name.f k s = some (decide (nameOk s)) := by
  have hj : ∀ (b : Bool), s.size ≤ 10 → ∃ r, spec_l01Name.j0 k s b = some r ∧ (r = true ↔ (b = false ∧ ∀ j : Nat, j < s.size → nameB (bt s j))) := by
    intro b hs
    obtain ⟨k, rfl⟩ : ∃ m, k = m + 1 := ⟨k - 1, by omega⟩
    obtain ⟨r, hr, hiff⟩ := name_l0 s hs s.size k 0 (by omega) (by omega)
    simp only [spec_l01Name.j0]
    cases b
    · exact ⟨r, by simpa using hr, by rw [hiff]; simp⟩
    · exact ⟨false, by simp, by simp⟩
  unfold spec_l01Name.f
  by_cases h0 : s.size = 0
  · rw [if_pos ((bytes_nil s).2 h0)]
    obtain ⟨r, hr, hiff⟩ := hj true (by omega)
    rw [hr]; congr 1; rw [Bool.eq_iff_iff, hiff]; simp [nameOk, h0]
  · rw [if_neg (fun h => h0 ((bytes_nil s).1 h))]
    by_cases h1 : (s.size : Int) > 10
    · rw [if_pos h1]
      obtain ⟨k, rfl⟩ : ∃ m, k = m + 1 := ⟨k - 1, by omega⟩
      simp only [spec_l01Name.j0]
      simp only [if_true]; congr 1; symm; rw [decide_eq_false_iff_not]; unfold nameOk; omega
    · rw [if_neg h1, if_pos (by omega), small_eq, Option.bind_some]
      obtain ⟨r, hr, hiff⟩ := hj (!decide (97 ≤ bt s 0 ∧ bt s 0 ≤ 122)) (by omega)
      rw [hr]; congr 1; rw [Bool.eq_iff_iff, hiff, decide_eq_true_iff]; unfold nameOk
      constructor
      · rintro ⟨a, b⟩; exact ⟨by omega, by omega, by simpa using a, b⟩
      · rintro ⟨a, b, c, d⟩; exact ⟨by simpa using c, d⟩

theorem IsName_eq (k : Nat) (s : ByteArray) (hk : 20 < k) : impl_IsName.f k s = some (decide (nameOk s)) := by
  unfold impl_IsName.f
  by_cases h0 : (s.size : Int) < 1
  · rw [if_pos h0]; congr 1; symm; rw [decide_eq_false_iff_not]; unfold nameOk; omega
  · rw [if_neg h0]
    by_cases h1 : (s.size : Int) > 10
    · rw [if_pos h1]; congr 1; symm; rw [decide_eq_false_iff_not]; unfold nameOk; omega
    · rw [if_neg h1, if_pos (by omega)]
      by_cases h2 : bt s 0 < 97
      · rw [if_pos h2]; congr 1; symm; rw [decide_eq_false_iff_not]; unfold nameOk; omega
      · rw [if_neg h2]
        by_cases h3 : bt s 0 > 122
        · rw [if_pos h3]; congr 1; symm; rw [decide_eq_false_iff_not]; unfold nameOk; omega
        · rw [if_neg h3]
          unfold impl_onlyNameBytes.f
          obtain ⟨r, hr, hiff⟩ := onlyName_l0 s (by omega) s.size k 0 (by omega) (by omega)
          have hr' : impl_onlyNameBytes.l0 k s s.size 0 = some r := by simpa using hr
          rw [hr', Option.bind_some]; congr 1; rw [Bool.eq_iff_iff, hiff, decide_eq_true_iff]; unfold nameOk
          constructor
          · intro a; exact ⟨by omega, by omega, by omega, fun j h => a j (by omega) h⟩
          · rintro ⟨a, b, c, d⟩ j _ h; exact d j h

theorem cmpT_eq (a b : Int) : cmp_Compare_int64.f a b = some (if a < b then -1 else if a > b then 1 else 0) := by
  unfold cmp_Compare_int64.f cmp_isNaN_int64.f
  simp only [Option.bind_some, bne_self_eq_false, Bool.false_eq_true, if_false]
  split
  · rfl
  · split <;> rfl
theorem sgn_eq (a b c d : Int) : ∃ u v, spec_l02Compare.f a b c d = some v ∧ impl_Ratio_compare.f c d a b = some u ∧ (v ≥ 0 ↔ u ≤ 0) := by
  unfold spec_l02Compare.f impl_Ratio_compare.f
  rw [cmpT_eq]
  generalize wrap64 (a * d) = x
  generalize wrap64 (c * b) = y
  simp only [Option.bind_some]
  by_cases h1 : x < y
  · refine ⟨_, _, by rw [if_pos h1], rfl, ?_⟩
    have h2 : ¬ y < x := by omega
    rw [if_neg h2, if_pos h1]; decide
  · by_cases h2 : x > y
    · refine ⟨_, _, by rw [if_neg h1, if_pos h2], rfl, ?_⟩
      have h3 : y < x := h2
      rw [if_pos h3]; decide
    · refine ⟨_, _, by rw [if_neg h1, if_neg h2], rfl, ?_⟩
      have h3 : ¬ y < x := h2
      have h4 : ¬ y > x := by omega
      rw [if_neg h3, if_neg h4]
def ElOk (p : S41) : Prop := RatOk p.f0 p.f1 ∧ p.f0 < 2 * p.f1
theorem tun_l0 (a : ByteArray) (l : List S41) (hl : l.length = 12) (o : Bool) (ho : ((if (rd_T41 l 0).f0 = 1 then some ((rd_T41 l 0).f1 == 1) else some false) : Option Bool) = some o) (d : Nat) : ∀ (i : Nat), l.length = i + d →
    ∃ r : Bool, (∀ k, 1000001 + d < k → spec_l04Ok.l0 k l i = some (r && o) ∧ impl_ValidTuning.l0 k l l.length i a l = some r) ∧ (r = true → ∀ j : Nat, i ≤ j → j < l.length → ElOk (rd_T41 l j)) := by
  induction d with
  | zero =>
    intro i hd
    refine ⟨true, fun k hk => ?_, fun _ j h1 h2 => by omega⟩
    obtain ⟨k, rfl⟩ : ∃ m, k = m + 1 := ⟨k - 1, by omega⟩
    have e : ¬ (i : Int) < (l.length : Int) := by omega
    have e1 : 0 < (l.length : Int) := by omega
    simp only [spec_l04Ok.l0, impl_ValidTuning.l0]
    rw [if_neg e, if_neg e, if_pos e1, ho]; exact ⟨by rw [Bool.true_and], rfl⟩
  | succ d ih =>
    intro i hd
    have e : (i : Int) < (l.length : Int) := by omega
    have e0 : 0 ≤ (i : Int) := by omega
    have ew : wrap64 ((i : Int) + 1) = ((i + 1 : Nat) : Int) := by rw [wr (n := (i : Int) + 1) (by omega)]; omega
    generalize hp : rd_T41 l (i : Int) = p
    have fin : ∀ (hbad : ∀ k, 1000001 < k → spec_l04Ok.l0 (k + 1) l i = some false ∧ impl_ValidTuning.l0 (k + 1) l l.length i a l = some false),
        ∃ r : Bool, (∀ k, 1000001 + (d + 1) < k → spec_l04Ok.l0 k l i = some (r && o) ∧ impl_ValidTuning.l0 k l l.length i a l = some r) ∧ (r = true → ∀ j : Nat, i ≤ j → j < l.length → ElOk (rd_T41 l j)) := fun hbad => by
      refine ⟨false, fun k hk => ?_, fun h => by simp at h⟩
      obtain ⟨k, rfl⟩ : ∃ m, k = m + 1 := ⟨k - 1, by omega⟩
      rw [Bool.false_and]; exact hbad k (by omega)
    by_cases c1 : RatOk p.f0 p.f1
    · have hm : wrap64 (2 * p.f1) = 2 * p.f1 := by have := c1.2.1; exact wr (by omega)
      by_cases c2 : p.f0 ≥ 2 * p.f1
      · apply fin
        intro k hk
        simp only [spec_l04Ok.l0, impl_ValidTuning.l0, hp, l02Ok_eq k p.f0 p.f1 (by omega), ValidRatio_eq k p.f0 p.f1 (by omega), Option.bind_some, decide_eq_true c1, if_true, hm]
        rw [if_pos e, if_pos e0, if_pos c2, if_pos e, if_pos e0, if_pos e, if_pos c2]; exact ⟨rfl, rfl⟩
      · obtain ⟨r, h1, h2⟩ := ih (i + 1) (by omega)
        have hel : ElOk p := ⟨c1, by omega⟩
        by_cases c3 : (i : Int) > 0
        · have wj : wrap64 ((i : Int) - 1) = (i : Int) - 1 := wr (by omega)
          have j0 : 0 ≤ (i : Int) - 1 := by omega
          have j1 : (i : Int) - 1 < (l.length : Int) := by omega
          generalize hq : rd_T41 l ((i : Int) - 1) = q
          obtain ⟨u, v, s1, s2, s3⟩ := sgn_eq q.f0 q.f1 p.f0 p.f1
          by_cases c4 : v ≥ 0
          · have c5 := s3.1 c4
            apply fin
            intro k hk
            simp only [spec_l04Ok.l0, impl_ValidTuning.l0, wj, hp, hq, s1, s2, l02Ok_eq k p.f0 p.f1 (by omega), ValidRatio_eq k p.f0 p.f1 (by omega), Option.bind_some, decide_eq_true c1, if_true, hm]
            rw [if_pos e, if_pos e0, if_neg c2, if_pos c3, if_pos j0, if_pos j1, if_pos c4, if_pos e, if_pos e0, if_pos e, if_neg c2, if_pos c3, if_pos j0, if_pos j1, if_pos c5]; exact ⟨rfl, rfl⟩
          · have c5 : ¬ u ≤ 0 := fun h => c4 (s3.2 h)
            refine ⟨r, fun k hk => ?_, fun ho j q1 q2 => ?_⟩
            · obtain ⟨k, rfl⟩ : ∃ m, k = m + 1 := ⟨k - 1, by omega⟩
              simp only [spec_l04Ok.l0, impl_ValidTuning.l0, wj, hp, hq, s1, s2, l02Ok_eq k p.f0 p.f1 (by omega), ValidRatio_eq k p.f0 p.f1 (by omega), Option.bind_some, decide_eq_true c1, if_true, hm, ew, (h1 k (by omega)).1, (h1 k (by omega)).2]
              rw [if_pos e, if_pos e0, if_neg c2, if_pos c3, if_pos j0, if_pos j1, if_neg c4, if_pos e, if_pos e0, if_pos e, if_neg c2, if_pos c3, if_pos j0, if_pos j1, if_neg c5]; exact ⟨rfl, rfl⟩
            · by_cases z : j = i
              · subst z; rw [hp]; exact hel
              · exact h2 ho j (by omega) q2
        · refine ⟨r, fun k hk => ?_, fun ho j q1 q2 => ?_⟩
          · obtain ⟨k, rfl⟩ : ∃ m, k = m + 1 := ⟨k - 1, by omega⟩
            simp only [spec_l04Ok.l0, impl_ValidTuning.l0, hp, l02Ok_eq k p.f0 p.f1 (by omega), ValidRatio_eq k p.f0 p.f1 (by omega), Option.bind_some, decide_eq_true c1, if_true, hm, ew, (h1 k (by omega)).1, (h1 k (by omega)).2]
            rw [if_pos e, if_pos e0, if_neg c2, if_neg c3, if_pos e, if_pos e0, if_pos e, if_neg c2, if_neg c3]; exact ⟨rfl, rfl⟩
          · by_cases z : j = i
            · subst z; rw [hp]; exact hel
            · exact h2 ho j (by omega) q2
    · apply fin
      intro k hk
      simp only [spec_l04Ok.l0, impl_ValidTuning.l0, hp, l02Ok_eq k p.f0 p.f1 (by omega), ValidRatio_eq k p.f0 p.f1 (by omega), Option.bind_some, decide_eq_false c1]
      rw [if_pos e, if_pos e0, if_pos e, if_pos e0, if_pos e]; exact ⟨rfl, rfl⟩
structure GoodT (l : List S41) : Prop where
  len : l.length = 12
  el : ∀ j : Nat, j < 12 → ElOk (rd_T41 l j)
theorem tuning_eq (a : ByteArray) (l : List S41) :
    ∃ r : Bool, (∀ k, 1000100 < k → spec_l04Ok.f k a l = some r ∧ impl_ValidTuning.f k a l = some r) ∧ (r = true → GoodT l) := by
  unfold spec_l04Ok.f impl_ValidTuning.f
  by_cases h1 : nameOk a
  · by_cases h2 : (l.length : Int) = 12
    · have h0 : 0 < (l.length : Int) := by omega
      generalize hp : rd_T41 l 0 = p
      obtain ⟨o, ho⟩ : ∃ o, ((if p.f0 = 1 then some (p.f1 == 1) else some false) : Option Bool) = some o := by split <;> exact ⟨_, rfl⟩
      obtain ⟨r, hr, hg⟩ := tun_l0 a l (by omega) o (by rw [hp]; exact ho) l.length 0 (by omega)
      have hb : (!(p.f0 == 1) || (!(p.f1 == 1))) = !o := by
        by_cases c : p.f0 = 1
        · rw [if_pos c] at ho; have := Option.some.inj ho; subst this; simp [c]
        · rw [if_neg c] at ho; have := Option.some.inj ho; subst this; simp [c]
      refine ⟨r && o, fun k hk => ?_, fun h => ⟨by omega, fun j hj => hg (by simp at h; exact h.1) j (by omega) (by omega)⟩⟩
      obtain ⟨k, rfl⟩ : ∃ m, k = m + 1 := ⟨k - 1, by omega⟩
      have e1 := (hr (k + 1) (by omega)).1
      have e2 := (hr k (by omega)).2
      simp only [Int.natCast_zero] at e1 e2
      rw [l01Name_eq _ a (by omega), IsName_eq _ a (by omega)]
      simp only [Option.bind_some, decide_eq_true h1, if_true, if_pos h2, if_pos h0, hb, impl_ValidTuning.j0, e1, e2]
      first | done | (cases o <;> simp)
    · refine ⟨false, fun k hk => ?_, fun h => by simp at h⟩
      obtain ⟨k, rfl⟩ : ∃ m, k = m + 1 := ⟨k - 1, by omega⟩
      rw [l01Name_eq _ a (by omega), IsName_eq _ a (by omega)]
      simp only [Option.bind_some, decide_eq_true h1, if_true, if_neg h2, impl_ValidTuning.j0]; exact ⟨trivial, trivial⟩
  · refine ⟨false, fun k hk => ?_, fun h => by simp at h⟩
    obtain ⟨k, rfl⟩ : ∃ m, k = m + 1 := ⟨k - 1, by omega⟩
    rw [l01Name_eq _ a (by omega), IsName_eq _ a (by omega)]
    simp [h1, impl_ValidTuning.j0]

theorem div_core (A B : Int) (hA : 0 ≤ A) (hB : 0 < B) : (2 * A + B) / (2 * B) = if A % B ≥ B - A % B then A / B + 1 else A / B := by
  have e : B * (A / B) + A % B = A := Int.mul_ediv_add_emod A B
  have h0 : 0 ≤ A % B := Int.emod_nonneg A (by omega)
  have h1 : A % B < B := Int.emod_lt_of_pos A hB
  generalize A % B = r at *
  generalize A / B = q at *
  split
  · rw [show 2 * A + B = (2 * r - B) + (2 * B) * (q + 1) by rw [← e, Int.mul_add, Int.mul_add]; rw [Int.mul_assoc 2 B q]; omega,
      Int.add_mul_ediv_left _ _ (by omega), Int.ediv_eq_zero_of_lt (by omega) (by omega)]; omega
  · rw [show 2 * A + B = (2 * r + B) + (2 * B) * q by rw [← e, Int.mul_add]; rw [Int.mul_assoc 2 B q]; omega,
      Int.add_mul_ediv_left _ _ (by omega), Int.ediv_eq_zero_of_lt (by omega) (by omega)]; omega

/-- The nearest quotient, halves away from 0. -/
def divR (a b : Int) : Int :=
  if b < 0 then (if a > 0 then -((2 * a + -b) / (2 * -b)) else (2 * -a + -b) / (2 * -b))
  else (if a < 0 then -((2 * -a + b) / (2 * b)) else (2 * a + b) / (2 * b))

theorem quot_bound (A B : Int) (hA : 0 ≤ A) (hB : 0 < B) : 0 ≤ (2 * A + B) / (2 * B) ∧ (2 * A + B) / (2 * B) ≤ 2 * A + B :=
  ⟨Int.ediv_nonneg (by omega) (by omega), Int.ediv_le_self _ (by omega)⟩

theorem ediv_le_self' (A B : Int) (hA : 0 ≤ A) (hB : 0 < B) : 0 ≤ A / B ∧ A / B ≤ A :=
  ⟨Int.ediv_nonneg hA (by omega), Int.ediv_le_self _ hA⟩

theorem l01Div_eq (a b : Int) (ha : -1000000000000000000 ≤ a ∧ a ≤ 1000000000000000000) (hb : -1000000000000000000 ≤ b ∧ b ≤ 1000000000000000000) (h0 : b ≠ 0) :
    spec_l01Div.f a b = some (divR a b) := by
  unfold spec_l01Div.f divR
  have w1 : wrap64 (-a) = -a := wr (by omega)
  have w2 : wrap64 (-b) = -b := wr (by omega)
  rw [w1, w2]
  have w3 : wrap64 (2 * -a) = 2 * -a := wr (by omega)
  have w4 : wrap64 (2 * -b) = 2 * -b := wr (by omega)
  have w5 : wrap64 (2 * a) = 2 * a := wr (by omega)
  have w6 : wrap64 (2 * b) = 2 * b := wr (by omega)
  rw [w3, w4, w5, w6]
  by_cases c : b < 0
  · rw [if_pos c, if_pos c]
    by_cases d : a > 0
    · rw [if_pos (show -a < 0 by omega), if_neg (by omega), if_pos d]
      have hq := quot_bound a (-b) (by omega) (by omega)
      rw [show -b - 2 * -a = 2 * a + -b by omega, wr (n := 2 * a + -b) (by omega), Int.tdiv_eq_ediv_of_nonneg (by omega), wr (n := (2 * a + -b) / (2 * -b)) (by omega), wr (by omega)]
    · rw [if_neg (show ¬ -a < 0 by omega), if_neg (by omega), if_neg d]
      have hq := quot_bound (-a) (-b) (by omega) (by omega)
      rw [wr (n := 2 * -a + -b) (by omega), Int.tdiv_eq_ediv_of_nonneg (by omega), wr (by omega)]
  · rw [if_neg c, if_neg c]
    by_cases d : a < 0
    · rw [if_pos d, if_neg (by omega), if_pos d]
      have hq := quot_bound (-a) b (by omega) (by omega)
      rw [show b - 2 * a = 2 * -a + b by omega, wr (n := 2 * -a + b) (by omega), Int.tdiv_eq_ediv_of_nonneg (by omega), wr (n := (2 * -a + b) / (2 * b)) (by omega), wr (by omega)]
    · rw [if_neg d, if_neg (by omega), if_neg d]
      have hq := quot_bound a b (by omega) (by omega)
      rw [wr (n := 2 * a + b) (by omega), Int.tdiv_eq_ediv_of_nonneg (by omega), wr (by omega)]

theorem abs_pos (a : Int) (h : 0 ≤ a ∧ a ≤ 9000000000000000000) : impl_abs.f a = some a := by
  unfold impl_abs.f mx
  rw [wr (n := -a) (by omega)]
  rw [if_neg (by omega)]
theorem abs_neg (a : Int) (h : 0 ≤ a ∧ a ≤ 9000000000000000000) : impl_abs.f (-a) = some a := by
  unfold impl_abs.f mx
  rw [wr (n := - -a) (by omega)]
  split
  · congr 1; omega
  · congr 1; omega

theorem divRound_eq (a b : Int) (ha : -1000000000000000000 ≤ a ∧ a ≤ 1000000000000000000) (hb : -1000000000000000000 ≤ b ∧ b ≤ 1000000000000000000) (h0 : b ≠ 0) :
    impl_divRound.f a b = some (divR a b) := by
  unfold impl_divRound.f divR
  rw [if_neg h0]
  have key : ∀ A B : Int, 0 ≤ A → 0 < B → A ≤ 1000000000000000000 → B ≤ 1000000000000000000 →
      (0 ≤ A % B ∧ A % B < B ∧ wrap64 (B - A % B) = B - A % B ∧ 0 ≤ A / B ∧ A / B ≤ A) := by
    intro A B hA hB h1 h2
    have e0 := Int.emod_nonneg A (show B ≠ 0 by omega)
    have e1 := Int.emod_lt_of_pos A hB
    have e2 := ediv_le_self' A B hA hB
    exact ⟨e0, e1, wr (by omega), e2.1, e2.2⟩
  by_cases c : b < 0
  · rw [if_pos c]
    by_cases d : a > 0
    · obtain ⟨k0, k1, k2, k3, k4⟩ := key a (-b) (by omega) (by omega) (by omega) (by omega)
      have t1 : Int.tmod a b = a % -b := by rw [← Int.tmod_neg, Int.tmod_eq_emod_of_nonneg (by omega)]
      have t2 : Int.tdiv a b = -(a / -b) := by rw [← Int.tdiv_eq_ediv_of_nonneg (by omega), Int.tdiv_neg, Int.neg_neg]
      rw [t1, t2, if_pos d, abs_pos (a % -b) (by omega), Option.bind_some, show b = - -b by omega, abs_neg (-b) (by omega), Option.bind_some]
      simp only [Int.neg_neg]
      rw [k2, div_core a (-b) (by omega) (by omega)]
      have s1 : decide (a < 0) = false := decide_eq_false (by omega)
      have s2 : decide (b < 0) = true := decide_eq_true (by omega)
      rw [s1, s2]
      split
      · rw [if_neg (by decide), wr (n := -(a / -b)) (by omega), wr (by omega)]; congr 1; omega
      · rw [wr (by omega)]
    · obtain ⟨k0, k1, k2, k3, k4⟩ := key (-a) (-b) (by omega) (by omega) (by omega) (by omega)
      have t1 : Int.tmod a b = -(-a % -b) := by
        rw [← Int.tmod_eq_emod_of_nonneg (by omega), Int.tmod_neg, Int.neg_tmod, Int.neg_neg]
      have t2 : Int.tdiv a b = -a / -b := by rw [← Int.tdiv_eq_ediv_of_nonneg (by omega), Int.tdiv_neg, Int.neg_tdiv, Int.neg_neg]
      rw [t1, t2, if_neg d, abs_neg (-a % -b) (by omega), Option.bind_some, show b = - -b by omega, abs_neg (-b) (by omega), Option.bind_some]
      simp only [Int.neg_neg]
      rw [k2, div_core (-a) (-b) (by omega) (by omega)]
      split
      · rename_i hh
        have ha0 : a < 0 := by
          by_cases e : a = 0
          · subst e; simp at hh; omega
          · omega
        have s1 : decide (a < 0) = true := decide_eq_true (by omega)
        have s2 : decide (b < 0) = true := decide_eq_true (by omega)
        rw [s1, s2, if_pos (by decide), wr (n := -a / -b) (by omega), wr (by omega)]
      · rw [wr (by omega)]
  · rw [if_neg c]
    by_cases d : a < 0
    · obtain ⟨k0, k1, k2, k3, k4⟩ := key (-a) b (by omega) (by omega) (by omega) (by omega)
      have t1 : Int.tmod a b = -(-a % b) := by
        rw [← Int.tmod_eq_emod_of_nonneg (by omega), Int.neg_tmod, Int.neg_neg]
      have t2 : Int.tdiv a b = -(-a / b) := by rw [← Int.tdiv_eq_ediv_of_nonneg (by omega), Int.neg_tdiv, Int.neg_neg]
      rw [t1, t2, if_pos d, abs_neg (-a % b) (by omega), Option.bind_some, abs_pos b (by omega), Option.bind_some]
      rw [k2, div_core (-a) b (by omega) (by omega)]
      have s1 : decide (a < 0) = true := decide_eq_true (by omega)
      have s2 : decide (b < 0) = false := decide_eq_false (by omega)
      rw [s1, s2]
      split
      · rw [if_neg (by decide), wr (n := -(-a / b)) (by omega), wr (by omega)]; congr 1; omega
      · rw [wr (by omega)]
    · obtain ⟨k0, k1, k2, k3, k4⟩ := key a b (by omega) (by omega) (by omega) (by omega)
      rw [Int.tmod_eq_emod_of_nonneg (by omega), Int.tdiv_eq_ediv_of_nonneg (by omega), if_neg d, abs_pos (a % b) (by omega), Option.bind_some, abs_pos b (by omega), Option.bind_some]
      rw [k2, div_core a b (by omega) (by omega)]
      have s1 : decide (a < 0) = false := decide_eq_false (by omega)
      have s2 : decide (b < 0) = false := decide_eq_false (by omega)
      rw [s1, s2]
      split
      · rw [if_pos (by decide), wr (n := a / b) (by omega), wr (by omega)]
      · rw [wr (by omega)]

/-- The tone of a pitch, its place among the twelve, and its octave. -/
theorem pitch_parts (p : Int) (h : -12 ≤ p ∧ p ≤ 23) : ∃ t o : Int, Int.tmod (wrap64 (Int.tmod p 12 + 12)) 12 = t ∧ wrap64 (Int.tdiv (wrap64 (p - t)) 12) = o ∧ (0 ≤ t ∧ t ≤ 11) ∧ (o = -1 ∨ o = 0 ∨ o = 1) := by
  refine ⟨_, _, rfl, rfl, ?_, ?_⟩
  · have : ∀ n : Fin 36, 0 ≤ Int.tmod (wrap64 (Int.tmod ((n.val : Int) - 12) 12 + 12)) 12 ∧ Int.tmod (wrap64 (Int.tmod ((n.val : Int) - 12) 12 + 12)) 12 ≤ 11 := by decide +kernel
    have h2 := this ⟨(p + 12).toNat, by omega⟩
    have e : (((p + 12).toNat : Nat) : Int) - 12 = p := by omega
    simp only [e] at h2; exact h2
  · have : ∀ n : Fin 36, (fun p : Int => wrap64 (Int.tdiv (wrap64 (p - Int.tmod (wrap64 (Int.tmod p 12 + 12)) 12)) 12) = -1 ∨ wrap64 (Int.tdiv (wrap64 (p - Int.tmod (wrap64 (Int.tmod p 12 + 12)) 12)) 12) = 0 ∨ wrap64 (Int.tdiv (wrap64 (p - Int.tmod (wrap64 (Int.tmod p 12 + 12)) 12)) 12) = 1) ((n.val : Int) - 12) := by decide +kernel
    have h2 := this ⟨(p + 12).toNat, by omega⟩
    have e : (((p + 12).toNat : Nat) : Int) - 12 = p := by omega
    simp only [e] at h2; exact h2
theorem divR_bound (n y : Int) (hn : 0 ≤ n ∧ n ≤ 4000000000000) (hy : 1 ≤ y ∧ y ≤ 2000000) : 0 ≤ divR n y ∧ divR n y ≤ 100000000000000 := by
  have h := quot_bound n y hn.1 (by omega)
  have c1 : ¬ n < 0 := by omega
  have c2 : ¬ y < 0 := by omega
  unfold divR
  rw [if_neg c2, if_neg c1]
  omega
theorem freq_eq (a : ByteArray) (l : List S41) (g : GoodT l) (b p : Int) (hb : 10000 ≤ b ∧ b ≤ 2000000) (hp : -12 ≤ p ∧ p ≤ 23) :
    ∃ r, (∀ k, 10 < k → spec_l04Frequency.f k a l b p = some r) ∧ impl_Tuning_frequency.f a l b p = some r ∧ 0 ≤ r ∧ r ≤ 100000000000000 := by
  obtain ⟨t, o, e1, e2, ht, ho⟩ := pitch_parts p hp
  have hl := g.len
  obtain ⟨⟨h0, h1, _⟩, _⟩ := g.el t.toNat (by omega)
  rw [show ((t.toNat : Nat) : Int) = t by omega] at h0 h1
  have c1 : 0 ≤ t := ht.1
  have c2 : t < (l.length : Int) := by omega
  unfold spec_l04Frequency.f impl_Tuning_frequency.f
  simp only [spec_l03Tone.f, impl_ToneOf.f, spec_l03Floor.f, impl_octaveOf.f, Option.bind_some, e1, e2, if_pos c1, if_pos c2]
  generalize (rd_T41 l t).f0 = x at *
  generalize (rd_T41 l t).f1 = y at *
  have m1 : 0 ≤ b * x ∧ b * x ≤ 2000000000000 := by
    have u1 := Int.mul_le_mul hb.2 h0.2 (by omega) (by omega)
    have u2 := Int.mul_nonneg (show 0 ≤ b by omega) (show 0 ≤ x by omega)
    omega
  rw [wr (n := b * x) (by omega)]
  generalize b * x = n at *
  have w1 : wrap64 (n * 2) = n * 2 := wr (by omega)
  have w2 : wrap64 (y * 2) = y * 2 := wr (by omega)
  rcases ho with rfl | rfl | rfl
  · refine ⟨divR n (y * 2), fun k hk => ?_, ?_, divR_bound n (y * 2) (by omega) (by omega)⟩
    · obtain ⟨k, rfl⟩ : ∃ m, k = m + 3 := ⟨k - 3, by omega⟩
      simp only [spec_l04Frequency.l0, spec_l04Frequency.l1, spec_l03Floor.f, spec_l03Tone.f, Option.bind_some, e1, e2]
      have z1 : ¬ (-1 : Int) > 0 := by decide
      have z2 : (-1 : Int) < 0 := by decide
      have z3 : ¬ wrap64 (-1 + 1) < 0 := by rw [wr (by omega)]; omega
      rw [if_neg z1, if_pos z2, if_neg z3, w2, l01Div_eq _ _ (by omega) (by omega) (by omega)]; rfl
    · rw [if_pos rfl, w2, divRound_eq _ _ (by omega) (by omega) (by omega)]; rfl
  · refine ⟨divR n y, fun k hk => ?_, ?_, divR_bound n y (by omega) (by omega)⟩
    · obtain ⟨k, rfl⟩ : ∃ m, k = m + 3 := ⟨k - 3, by omega⟩
      simp only [spec_l04Frequency.l0, spec_l04Frequency.l1, spec_l03Floor.f, spec_l03Tone.f, Option.bind_some, e1, e2]
      have z1 : ¬ (0 : Int) > 0 := by decide
      have z2 : ¬ (0 : Int) < 0 := by decide
      rw [if_neg z1, if_neg z2, l01Div_eq _ _ (by omega) (by omega) (by omega)]; rfl
    · rw [if_neg (by decide), if_neg (by decide), divRound_eq _ _ (by omega) (by omega) (by omega)]; rfl
  · refine ⟨divR (n * 2) y, fun k hk => ?_, ?_, divR_bound (n * 2) y (by omega) (by omega)⟩
    · obtain ⟨k, rfl⟩ : ∃ m, k = m + 3 := ⟨k - 3, by omega⟩
      simp only [spec_l04Frequency.l0, spec_l04Frequency.l1, spec_l03Floor.f, spec_l03Tone.f, Option.bind_some, e1, e2]
      have z1 : (1 : Int) > 0 := by decide
      have z2 : ¬ wrap64 (1 - 1) > 0 := by rw [wr (by omega)]; omega
      have z3 : ¬ (1 : Int) < 0 := by decide
      rw [if_pos z1, if_neg z2, if_neg z3, w1, l01Div_eq _ _ (by omega) (by omega) (by omega)]; rfl
    · rw [if_neg (by decide), if_pos rfl, w1, divRound_eq _ _ (by omega) (by omega) (by omega)]; rfl

theorem p03t_eq (p : Int) : spec_l03Pitch.f p = some (decide (-12 ≤ p ∧ p ≤ 23)) := by
  unfold spec_l03Pitch.f; rw [l00In_eq]; rfl
theorem base_eq (b : Int) : spec_l04Base.f b = some (decide (10000 ≤ b ∧ b ≤ 2000000)) := by
  unfold spec_l04Base.f; rw [l00In_eq]; rfl
theorem within1t_eq (p : Int) : impl_allWithin_1.f (-12) 23 p = some (!decide (-12 ≤ p ∧ p ≤ 23)) := by
  unfold impl_allWithin_1.f; rw [within_eq]; rfl
theorem all1 (p : Int) (k : Nat) (hk : 5 < k) : impl_allWithin.f k [p] (-12) 23 = some (decide (-12 ≤ p ∧ p ≤ 23)) := by
  obtain ⟨k, rfl⟩ : ∃ m, k = m + 3 := ⟨k - 3, by omega⟩
  have r0 : rd [p] 0 = p := rfl
  have w1 : wrap64 (0 + 1) = 1 := wr (by omega)
  unfold impl_allWithin.f clo_ints.has
  simp only [clo_ints.l0, r0, w1, within1t_eq p]
  by_cases h : -12 ≤ p ∧ p ≤ 23 <;> simp [h]
theorem all2 (p q : Int) (k : Nat) (hk : 5 < k) : impl_allWithin.f k [p, q] (-12) 23 = some (decide ((-12 ≤ p ∧ p ≤ 23) ∧ (-12 ≤ q ∧ q ≤ 23))) := by
  obtain ⟨k, rfl⟩ : ∃ m, k = m + 3 := ⟨k - 3, by omega⟩
  have r0 : rd [p, q] 0 = p := rfl
  have r1 : rd [p, q] 1 = q := rfl
  have w1 : wrap64 (0 + 1) = 1 := wr (by omega)
  have w2 : wrap64 (1 + 1) = 2 := wr (by omega)
  unfold impl_allWithin.f clo_ints.has
  simp only [clo_ints.l0, r0, r1, w1, w2, within1t_eq p, within1t_eq q]
  by_cases h : -12 ≤ p ∧ p ≤ 23 <;> by_cases h2 : -12 ≤ q ∧ q ≤ 23 <;> simp [h, h2]

theorem abs_same0 (n : Int) : ∃ r, spec_l04Abs.f n = some r ∧ impl_abs.f n = some r ∧ (-9223372036854775807 ≤ n → n ≤ 9223372036854775807 → 0 ≤ r) := by
  unfold spec_l04Abs.f spec_l00Max.f impl_abs.f mx
  by_cases h : n > wrap64 (-n)
  · refine ⟨n, by rw [if_pos h]; rfl, ?_, fun h1 h2 => ?_⟩
    · congr 1; split <;> omega
    · rw [wr (n := -n) (by omega)] at h; omega
  · refine ⟨wrap64 (-n), by rw [if_neg h]; rfl, ?_, fun h1 h2 => ?_⟩
    · congr 1; split <;> omega
    · rw [wr (n := -n) (by omega)] at h ⊢; omega
/-- Two states of the search: the same, and the fewest beats are not negative. -/
theorem pure_l1 (x y : Int) (hx : 0 ≤ x ∧ x ≤ 100000000000000) (hy : 0 ≤ y ∧ y ≤ 100000000000000) (m : Int) (hm : 1 ≤ m ∧ m ≤ 16) (B : Nat)
    (H : ∀ f s w : Int, 0 ≤ w → ∃ r, ∀ k, B < k → spec_PureBeats.l0 k x y f s w (m + 1) = some r ∧ impl_PureBeats.l0 k x y f s w (m + 1) = some r) (d : Nat) :
    ∀ (n f s w : Int), n = 17 - d → 1 ≤ n → 0 ≤ w → ∃ r, ∀ k, B + d + 1 < k → spec_PureBeats.l1 k x y f s w m n = some r ∧ impl_PureBeats.l1 k x y f s w m n = some r := by
  induction d with
  | zero =>
    intro n f s w hn _ h0
    obtain ⟨r, hr⟩ := H f s w h0
    refine ⟨r, fun k hk => ?_⟩
    obtain ⟨k, rfl⟩ : ∃ m, k = m + 1 := ⟨k - 1, by omega⟩
    have c : ¬ n ≤ 16 := by omega
    have w1 : wrap64 (m + 1) = m + 1 := wr (by omega)
    simp only [spec_PureBeats.l1, impl_PureBeats.l1, w1]
    rw [if_neg c, if_neg c]; exact hr k (by omega)
  | succ d ih =>
    intro n f s w hn h1 h0
    have c : n ≤ 16 := by omega
    have w1 : wrap64 (n + 1) = n + 1 := wr (by omega)
    have p1 : 0 ≤ m * x ∧ m * x ≤ 1600000000000000 := by
      have u1 := Int.mul_le_mul hm.2 hx.2 (by omega) (by omega)
      have u2 := Int.mul_nonneg (show 0 ≤ m by omega) hx.1
      omega
    have p2 : 0 ≤ n * y ∧ n * y ≤ 1600000000000000 := by
      have u1 := Int.mul_le_mul c hy.2 (by omega) (by omega)
      have u2 := Int.mul_nonneg (show 0 ≤ n by omega) hy.1
      omega
    have e1 : wrap64 (m * x) = m * x := wr (by omega)
    have e2 : wrap64 (n * y) = n * y := wr (by omega)
    have e3 : wrap64 (m * x - n * y) = m * x - n * y := wr (by omega)
    obtain ⟨b, b1, b2, b3⟩ := abs_same0 (m * x - n * y)
    have b4 := b3 (by omega) (by omega)
    have cw : ¬ w < 0 := by omega
    by_cases cb : b < w
    · obtain ⟨r, hr⟩ := ih (n + 1) m n b (by omega) (by omega) b4
      refine ⟨r, fun k hk => ?_⟩
      obtain ⟨k, rfl⟩ : ∃ m, k = m + 1 := ⟨k - 1, by omega⟩
      simp only [spec_PureBeats.l1, impl_PureBeats.l1, w1, e1, e2, e3, b1, b2, Option.bind_some]
      rw [if_pos c, if_pos cb, if_pos c, if_neg cw, if_pos cb]; exact hr k (by omega)
    · obtain ⟨r, hr⟩ := ih (n + 1) f s w (by omega) (by omega) h0
      refine ⟨r, fun k hk => ?_⟩
      obtain ⟨k, rfl⟩ : ∃ m, k = m + 1 := ⟨k - 1, by omega⟩
      simp only [spec_PureBeats.l1, impl_PureBeats.l1, w1, e1, e2, e3, b1, b2, Option.bind_some]
      rw [if_pos c, if_neg cb, if_pos c, if_neg cw, if_neg cb]; exact hr k (by omega)
theorem pure_l0 (x y : Int) (hx : 0 ≤ x ∧ x ≤ 100000000000000) (hy : 0 ≤ y ∧ y ≤ 100000000000000) (d : Nat) :
    ∀ (m f s w : Int), m = 17 - d → 1 ≤ m → 0 ≤ w → ∃ r, ∀ k, 30 * d < k → spec_PureBeats.l0 k x y f s w m = some r ∧ impl_PureBeats.l0 k x y f s w m = some r := by
  induction d with
  | zero =>
    intro m f s w hm _ h0
    refine ⟨(f, s, w, 0), fun k hk => ?_⟩
    obtain ⟨k, rfl⟩ : ∃ m, k = m + 1 := ⟨k - 1, by omega⟩
    have c : ¬ m ≤ 16 := by omega
    simp only [spec_PureBeats.l0, impl_PureBeats.l0]
    rw [if_neg c, if_neg c]; exact ⟨rfl, rfl⟩
  | succ d ih =>
    intro m f s w hm h1 h0
    have c : m ≤ 16 := by omega
    obtain ⟨r, hr⟩ := pure_l1 x y hx hy m ⟨h1, c⟩ (30 * d) (fun f s w h => ih (m + 1) f s w (by omega) (by omega) h) 16 1 f s w (by omega) (by omega) h0
    refine ⟨r, fun k hk => ?_⟩
    obtain ⟨k, rfl⟩ : ∃ m, k = m + 1 := ⟨k - 1, by omega⟩
    simp only [spec_PureBeats.l0, impl_PureBeats.l0]
    rw [if_pos c, if_pos c]; exact hr k (by omega)
/-- The first round: the program begins with no beats at all, the reference with those of 1 and 1. -/
theorem pure_start (x y : Int) (hx : 0 ≤ x ∧ x ≤ 100000000000000) (hy : 0 ≤ y ∧ y ≤ 100000000000000) :
    ∃ b r, spec_l04Abs.f (wrap64 (x - y)) = some b ∧ ∀ k, 1000 < k → spec_PureBeats.l0 k x y 1 1 b 1 = some r ∧ impl_PureBeats.l0 k x y 0 0 (-1) 1 = some r := by
  have e0 : wrap64 (x - y) = x - y := wr (by omega)
  obtain ⟨b, b1, b2, b3⟩ := abs_same0 (x - y)
  have b4 := b3 (by omega) (by omega)
  have e1 : wrap64 (1 * x) = x := by rw [Int.one_mul]; exact wr (by omega)
  have e2 : wrap64 (1 * y) = y := by rw [Int.one_mul]; exact wr (by omega)
  have H := fun f s w h => pure_l0 x y hx hy 15 (1 + 1) f s w (by omega) (by omega) h
  obtain ⟨r, hr⟩ := pure_l1 x y hx hy 1 (by omega) (30 * 15) (fun f s w h => H f s w h) 15 2 1 1 b (by omega) (by omega) b4
  refine ⟨b, r, by rw [e0]; exact b1, fun k hk => ?_⟩
  obtain ⟨k, rfl⟩ : ∃ m, k = m + 2 := ⟨k - 2, by omega⟩
  have c : (1 : Int) ≤ 16 := by decide
  have w2 : wrap64 (1 + 1) = 2 := wr (by omega)
  have c1 : ¬ b < b := by omega
  have c2 : (-1 : Int) < 0 := by decide
  simp only [spec_PureBeats.l0, impl_PureBeats.l0, spec_PureBeats.l1, impl_PureBeats.l1, if_pos c, e1, e2, e0, b1, b2, Option.bind_some, w2, if_neg c1, if_pos c2]
  exact hr k (by omega)
theorem pureBeats_eq (a : ByteArray) (l : List S41) (b p q : Int) : ∃ r, ∀ k, 1000200 < k → spec_PureBeats.f k a l b p q = some r ∧ impl_PureBeats.f k a l b p q = some r := by
  obtain ⟨v, hv, hg⟩ := tuning_eq a l
  unfold spec_PureBeats.f impl_PureBeats.f impl_tuningCode.f
  cases v with
  | false => exact ⟨(0, 0, 0, 1), fun k hk => by rw [(hv k (by omega)).1, (hv k (by omega)).2]; exact ⟨rfl, rfl⟩⟩
  | true =>
    by_cases c0 : (10000 ≤ b ∧ b ≤ 2000000) ∧ (-12 ≤ p ∧ p ≤ 23) ∧ (-12 ≤ q ∧ q ≤ 23)
    · obtain ⟨c1, c2, c3⟩ := c0
      obtain ⟨x, h1, h2, h3⟩ := freq_eq a l (hg rfl) b p c1 c2
      obtain ⟨y, g1, g2, g3⟩ := freq_eq a l (hg rfl) b q c1 c3
      obtain ⟨z, r, z1, z2⟩ := pure_start x y h3 g3
      refine ⟨r, fun k hk => ?_⟩
      obtain ⟨k, rfl⟩ : ∃ m, k = m + 1 := ⟨k - 1, by omega⟩
      have z3 := (z2 k (by omega)).1
      have z4 := (z2 (k + 1) (by omega)).2
      rw [(hv _ (by omega)).1, (hv _ (by omega)).2, base_eq, p03t_eq, p03t_eq, within_eq, all2 p q _ (by omega)]
      simp [c1, c2, c3, spec_PureBeats.j0, h1 k (by omega), g1 k (by omega), h2, g2, z1, z3, z4]
    · refine ⟨(0, 0, 0, 2), fun k hk => ?_⟩
      obtain ⟨k, rfl⟩ : ∃ m, k = m + 1 := ⟨k - 1, by omega⟩
      rw [(hv _ (by omega)).1, (hv _ (by omega)).2, base_eq, p03t_eq, p03t_eq, within_eq, all2 p q _ (by omega)]
      by_cases c1 : 10000 ≤ b ∧ b ≤ 2000000
      · by_cases c2 : -12 ≤ p ∧ p ≤ 23
        · have c3 : ¬ (-12 ≤ q ∧ q ≤ 23) := fun h => c0 ⟨c1, c2, h⟩
          simp [c1, c2, c3, spec_PureBeats.j0]
        · simp [c1, c2, spec_PureBeats.j0]
      · simp [c1, spec_PureBeats.j0]
theorem FnExactPureBeats : laws_FnExactPureBeats.Pure := by
  intro a l b p q ha hl _ _ _
  refine ⟨1048590, ?_⟩
  unfold laws_FnExactPureBeats.f
  obtain ⟨r, h1, h2⟩ := szTuning_eq a l 1048576 ha hl (by omega)
  rw [h1]; simp only [Option.bind_some]
  by_cases c1 : r < 0
  · rw [if_pos c1]
  · rw [if_neg c1, toTuning_eq _ a l (by omega) (by omega)]
    obtain ⟨z, hz⟩ := pureBeats_eq a (l.map toT) b p q
    simp only [Option.bind_some, (hz 1048590 (by omega)).1, (hz 1048590 (by omega)).2, bne_self_eq_false, if_true, laws_FnExactPureBeats.j0, Bool.false_eq_true, if_false]
    rw [toTuning_eq _ a l (by omega) (by omega)]
    simp only [Option.bind_some]
    rw [eqTuning_self _ a _ (by simp; omega) (by simp; omega)]; simp

end Go.Proofs.Ytigjcobannhdlaa.Pure
