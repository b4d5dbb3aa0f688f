/- Proved: the plain statement of the law FnExactTuneTone: the program's function and the reference's give the same answer. Conditions: none beyond the statement's own. -/
import Derived.Test.YtigjcobannhdlaaStmFnExactTuneTone
namespace Go.Proofs.Ytigjcobannhdlaa.Pure
open Go.RowKit Go.Proofs.Ytigjcobannhdlaa.PFnExactTuneTone Go.Proofs.YtigjcobannhdlaaW.PrintWords Go.Proofs.YtigjcobannhdlaaW.PrintLast
set_option linter.unusedVariables false
set_option linter.unusedSimpArgs false

theorem wr {n : Int} (h : -9223372036854775808 ≤ n ∧ n ≤ 9223372036854775807) : wrap64 n = n := by unfold wrap64; omega

theorem rdT_lt (l : List S41) (j : Nat) (h : j < l.length) : rd_T41 l j = l[j] := by
  unfold rd_T41; rw [Int.toNat_natCast, List.getD_eq_getElem?_getD, List.getElem?_eq_getElem h]; rfl
theorem eqRatioS_l0 (l : List S41) (hl : l.length ≤ 1048576) (d : Nat) : ∀ (k i : Nat), l.length = i + d → d < k → laws_eqRatioS.l0 k l l i = some true := by
  induction d with
  | zero =>
    intro k i hd hk
    obtain ⟨k, rfl⟩ : ∃ m, k = m + 1 := ⟨k - 1, by omega⟩
    simp only [laws_eqRatioS.l0]; rw [if_neg (by omega)]
  | succ d ih =>
    intro k i hd hk
    obtain ⟨k, rfl⟩ : ∃ m, k = m + 1 := ⟨k - 1, by omega⟩
    simp only [laws_eqRatioS.l0, laws_eqRatio.f]
    rw [if_pos (by omega), if_pos (by omega), if_pos (by omega)]
    simp only [if_true, Option.bind_some]
    rw [wr (n := (i : Int) + 1) (by omega), show ((i : Int) + 1) = ((i + 1 : Nat) : Int) by omega]
    exact ih k (i + 1) (by omega) (by omega)
theorem eqRatioS_self (k : Nat) (l : List S41) (hl : l.length ≤ 1048576) (hk : l.length < k) : laws_eqRatioS.f k l l = some true := by
  unfold laws_eqRatioS.f; rw [if_pos rfl]; exact eqRatioS_l0 l hl l.length k 0 (by omega) hk
theorem eqTuning_self (k : Nat) (a : ByteArray) (l : List S41) (hl : l.length ≤ 1048576) (hk : l.length < k) : laws_eqTuning.f k a l a l = some true := by
  unfold laws_eqTuning.f; rw [if_pos rfl, eqRatioS_self k l hl hk]; rfl

def toT (x : S38) : S41 := ⟨x.f0, x.f1⟩
theorem rdL_lt (l : List S38) (j : Nat) (h : j < l.length) : rd_T38 l j = l[j] := by
  unfold rd_T38; rw [Int.toNat_natCast, List.getD_eq_getElem?_getD, List.getElem?_eq_getElem h]; rfl
theorem toRatioS_l0 (l : List S38) (hl : l.length ≤ 1048576) (d : Nat) : ∀ (k i : Nat) (m : List S41), l.length = i + d → d < k →
    m = (l.take i).map toT ++ List.replicate (l.length - i) z41 → laws_toRatioS.l0 k l m i = some (l.map toT) := by
  induction d with
  | zero =>
    intro k i m hd hk hm
    obtain ⟨k, rfl⟩ : ∃ m, k = m + 1 := ⟨k - 1, by omega⟩
    simp only [laws_toRatioS.l0]; rw [if_neg (by omega), hm, show l.length - i = 0 by omega, List.take_of_length_le (by omega)]; simp
  | succ d ih =>
    intro k i m hd hk hm
    obtain ⟨k, rfl⟩ : ∃ m, k = m + 1 := ⟨k - 1, by omega⟩
    have hml : m.length = l.length := by subst hm; simp; omega
    simp only [laws_toRatioS.l0, laws_toRatio.f]
    rw [if_pos (by omega), if_pos (by omega)]
    simp only [Option.bind_some]
    rw [if_pos (by omega), wr (n := (i : Int) + 1) (by omega), show ((i : Int) + 1) = ((i + 1 : Nat) : Int) by omega]
    apply ih k (i + 1) _ (by omega) (by omega)
    have h1 : ((l.take i).map toT).length = i := by simp; omega
    rw [Int.toNat_natCast, hm, rdL_lt l i (by omega), List.take_succ_eq_append_getElem (by omega), show l.length - i = (l.length - (i + 1)) + 1 by omega, List.replicate_succ, List.set_append_right _ _ (by omega), h1, Nat.sub_self, List.set_cons_zero, List.map_append, List.append_assoc]
    rfl
theorem toRatioS_eq (k : Nat) (l : List S38) (hl : l.length ≤ 1048576) (hk : l.length < k) : laws_toRatioS.f k l = some (l.map toT) := by
  unfold laws_toRatioS.f
  rw [if_pos (by omega), if_pos (by omega)]
  exact toRatioS_l0 l hl l.length k 0 _ (by omega) hk (by simp)
theorem toTuning_eq (k : Nat) (a : ByteArray) (l : List S38) (hl : l.length ≤ 1048576) (hk : l.length < k) : laws_toTuning.f k a l = some (a, l.map toT) := by
  unfold laws_toTuning.f; rw [toRatioS_eq k l hl hk]; rfl
theorem szTuning_eq (a : ByteArray) (l : List S38) (left : Int) (ha : a.size ≤ maxLen) (hl : l.length ≤ maxLen) (h : 0 ≤ left ∧ left ≤ 1048576) :
    ∃ r, laws_szTuning.f a l left = some r ∧ (r < 0 ∨ (0 ≤ r ∧ (a.size : Int) + l.length + r = left)) := by
  unfold maxLen at ha hl
  unfold laws_szTuning.f laws_szRatioS.f
  rw [wr (n := left - (a.size : Int)) (by omega)]
  by_cases c1 : left - (a.size : Int) < 0
  · exact ⟨-1, by rw [if_pos c1], .inl (by omega)⟩
  · rw [if_neg c1, wr (n := left - (a.size : Int) - (l.length : Int)) (by omega)]
    by_cases c2 : left - (a.size : Int) - (l.length : Int) < 0
    · exact ⟨-1, by rw [if_pos c2]; rfl, .inl (by omega)⟩
    · exact ⟨left - (a.size : Int) - (l.length : Int), by rw [if_neg c2]; simp only [Option.bind_some]; rw [if_neg c2], .inr (by omega)⟩

theorem l00In_eq (a b c : Int) : spec_l00In.f a b c = some (decide (b ≤ a ∧ a ≤ c)) := by
  unfold spec_l00In.f
  by_cases h : a ≥ b <;> simp [h]

theorem within_eq (a b c : Int) : impl_within.f a b c = some (decide (b ≤ a ∧ a ≤ c)) := by
  unfold impl_within.f
  by_cases h : a ≥ b <;> simp [h]

theorem gcd_step (a b : Nat) : Nat.gcd b (a % b) = Nat.gcd a b := by
  rw [Nat.gcd_comm a b, Nat.gcd_rec b a, Nat.gcd_comm]
theorem l02Gcd_l0 (d : Nat) : ∀ (k a b : Nat), b ≤ d → d < k → spec_l02Gcd.l0 k (a : Int) (b : Int) = some (Nat.gcd a b : Int) := by
  induction d with
  | zero =>
    intro k a b hb hk
    obtain ⟨k, rfl⟩ : ∃ m, k = m + 1 := ⟨k - 1, by omega⟩
    obtain rfl : b = 0 := by omega
    simp [spec_l02Gcd.l0]
  | succ d ih =>
    intro k a b hb hk
    obtain ⟨k, rfl⟩ : ∃ m, k = m + 1 := ⟨k - 1, by omega⟩
    simp only [spec_l02Gcd.l0]
    by_cases h : (b : Int) = 0
    · rw [if_pos h]; obtain rfl : b = 0 := by omega
      simp
    · rw [if_neg h]
      have e : Int.tmod (a : Int) b = ((a % b : Nat) : Int) := rfl
      have hlt := Nat.mod_lt a (show b > 0 by omega)
      rw [e, ih k b (a % b) (by omega) (by omega), gcd_step]
theorem commonDivisor_l0 (d : Nat) : ∀ (k a b : Nat), b ≤ d → d < k → impl_commonDivisor.l0 k (a : Int) (b : Int) = some (Nat.gcd a b : Int) := by
  induction d with
  | zero =>
    intro k a b hb hk
    obtain ⟨k, rfl⟩ : ∃ m, k = m + 1 := ⟨k - 1, by omega⟩
    obtain rfl : b = 0 := by omega
    simp [impl_commonDivisor.l0]
  | succ d ih =>
    intro k a b hb hk
    obtain ⟨k, rfl⟩ : ∃ m, k = m + 1 := ⟨k - 1, by omega⟩
    simp only [impl_commonDivisor.l0]
    by_cases h : (b : Int) = 0
    · rw [if_pos h]; obtain rfl : b = 0 := by omega
      simp
    · rw [if_neg h]
      have e : Int.tmod (a : Int) b = ((a % b : Nat) : Int) := rfl
      have hlt := Nat.mod_lt a (show b > 0 by omega)
      rw [e, ih k b (a % b) (by omega) (by omega), gcd_step]
theorem l02Gcd_eq (k : Nat) (a b : Int) (ha : 0 ≤ a) (hb : 0 ≤ b) (hk : b.toNat < k) : spec_l02Gcd.f k a b = some (Nat.gcd a.toNat b.toNat : Int) := by
  unfold spec_l02Gcd.f
  have := l02Gcd_l0 b.toNat k a.toNat b.toNat (Nat.le_refl _) hk
  rwa [show ((a.toNat : Nat) : Int) = a by omega, show ((b.toNat : Nat) : Int) = b by omega] at this
theorem commonDivisor_eq (k : Nat) (a b : Int) (ha : 0 ≤ a) (hb : 0 ≤ b) (hk : b.toNat < k) : impl_commonDivisor.f k a b = some (Nat.gcd a.toNat b.toNat : Int) := by
  unfold impl_commonDivisor.f
  have := commonDivisor_l0 b.toNat k a.toNat b.toNat (Nat.le_refl _) hk
  rwa [show ((a.toNat : Nat) : Int) = a by omega, show ((b.toNat : Nat) : Int) = b by omega] at this
/-- Two numbers that are a valid ratio. -/
def RatOk (x y : Int) : Prop := (1 ≤ x ∧ x ≤ 1000000) ∧ (1 ≤ y ∧ y ≤ 1000000) ∧ Nat.gcd x.toNat y.toNat = 1
instance ratOkDec (x y : Int) : Decidable (RatOk x y) := by unfold RatOk; infer_instance
theorem one_beq (n : Nat) : (((n : Int) == 1) : Bool) = decide (n = 1) := by
  rw [Bool.eq_iff_iff, beq_iff_eq, decide_eq_true_iff]; omega

theorem l02Ok_eq (k : Nat) (x y : Int) (hk : 1000000 < k) : spec_l02Ok.f k x y = some (decide (RatOk x y)) := by
  unfold spec_l02Ok.f spec_l02Part.f
  rw [l00In_eq, l00In_eq]
  simp only [Option.bind_some]
  by_cases h1 : 1 ≤ x ∧ x ≤ 1000000
  · by_cases h2 : 1 ≤ y ∧ y ≤ 1000000
    · rw [l02Gcd_eq k x y (by omega) (by omega) (by omega)]
      simp only [Option.bind_some, decide_eq_true h1, decide_eq_true h2, if_true]
      rw [one_beq]; congr 1; simp [RatOk, h1, h2]
    · simp [h1, h2, RatOk]
  · simp [h1, RatOk]

theorem ValidRatio_eq (k : Nat) (x y : Int) (hk : 1000000 < k) : impl_ValidRatio.f k x y = some (decide (RatOk x y)) := by
  unfold impl_ValidRatio.f
  rw [within_eq, within_eq]
  simp only [Option.bind_some]
  by_cases h1 : 1 ≤ x ∧ x ≤ 1000000
  · by_cases h2 : 1 ≤ y ∧ y ≤ 1000000
    · rw [commonDivisor_eq k x y (by omega) (by omega) (by omega)]
      simp only [Option.bind_some, decide_eq_true h1, decide_eq_true h2, if_true]
      rw [one_beq]; congr 1; simp [RatOk, h1, h2]
    · simp [h1, h2, RatOk]
  · simp [h1, RatOk]


theorem bt_range (s : ByteArray) (i : Int) : 0 ≤ bt s i ∧ bt s i < 256 := by
  unfold bt
  split
  · constructor
    · omega
    · have := (s[i.toNat]'(by assumption)).toNat_lt; omega
  · omega

theorem bytes_nil (s : ByteArray) : s.toList = ([] : List UInt8) ↔ s.size = 0 := by
  rw [Go.ByteArray.toList_eq]
  have : s.data.toList.length = s.size := by cases s; rfl
  constructor
  · intro h; rw [h] at this; simpa using this.symm
  · intro h; exact List.length_eq_zero_iff.1 (by omega)

/-- A byte that a name may bear. -/
def nameB (c : Int) : Prop := (97 ≤ c ∧ c ≤ 122) ∨ (48 ≤ c ∧ c ≤ 57)
/-- A text that is a name. -/
def nameOk (s : ByteArray) : Prop := 1 ≤ s.size ∧ s.size ≤ 10 ∧ (97 ≤ bt s 0 ∧ bt s 0 ≤ 122) ∧ ∀ j : Nat, j < s.size → nameB (bt s j)

instance nameBDec (c : Int) : Decidable (nameB c) := by unfold nameB; infer_instance
instance nameOkDec (s : ByteArray) : Decidable (nameOk s) := by unfold nameOk; infer_instance
theorem small_eq (c : Int) : spec_l01Small.f c = some (decide (97 ≤ c ∧ c ≤ 122)) := by
  unfold spec_l01Small.f
  by_cases h : c ≥ 97 <;> simp [h]
theorem digit_eq (c : Int) : spec_l01Digit.f c = some (decide (48 ≤ c ∧ c ≤ 57)) := by
  unfold spec_l01Digit.f
  by_cases h : c ≥ 48 <;> simp [h]

theorem name_l0 (s : ByteArray) (hs : s.size ≤ 10) (d : Nat) : ∀ (k i : Nat), s.size = i + d → d < k →
    ∃ b, spec_l01Name.l0 k s i = some b ∧ (b = true ↔ ∀ j : Nat, i ≤ j → j < s.size → nameB (bt s j)) := by
  induction d with
  | zero =>
    intro k i hd hk
    obtain ⟨k, rfl⟩ : ∃ m, k = m + 1 := ⟨k - 1, by omega⟩
    exact ⟨true, by simp only [spec_l01Name.l0]; rw [if_neg (by omega)], by simp; intro j h1 h2; omega⟩
  | succ d ih =>
    intro k i hd hk
    obtain ⟨k, rfl⟩ : ∃ m, k = m + 1 := ⟨k - 1, by omega⟩
    simp only [spec_l01Name.l0]
    rw [if_pos (by omega), if_pos (by omega), small_eq, digit_eq, Option.bind_some, Option.bind_some, wr (n := (i : Int) + 1) (by omega)]
    obtain ⟨b, hb, hiff⟩ := ih k (i + 1) (by omega) (by omega)
    have hb' : spec_l01Name.l0 k s ((i : Int) + 1) = some b := by simpa using hb
    rw [hb']
    by_cases hc : nameB (bt s i)
    · refine ⟨b, ?_, ?_⟩
      · unfold nameB at hc
        rcases hc with hc | hc
        · simp [hc]
        · simp [hc]
      · rw [hiff]
        constructor
        · intro h j h1 h2
          by_cases e : j = i
          · subst e; exact hc
          · exact h j (by omega) h2
        · intro h j h1 h2; exact h j (by omega) h2
    · refine ⟨false, ?_, ?_⟩
      · unfold nameB at hc
        have c1 : ¬ (97 ≤ bt s i ∧ bt s i ≤ 122) := fun h => hc (Or.inl h)
        have c2 : ¬ (48 ≤ bt s i ∧ bt s i ≤ 57) := fun h => hc (Or.inr h)
        simp [c1, c2]
      · simp; exact ⟨i, by omega, by omega, hc⟩

theorem onlyName_l0 (s : ByteArray) (hs : s.size ≤ 10) (d : Nat) : ∀ (k i : Nat), s.size = i + d → d < k →
    ∃ b, impl_onlyNameBytes.l0 k s s.size i = some b ∧ (b = true ↔ ∀ j : Nat, i ≤ j → j < s.size → nameB (bt s j)) := by
  induction d with
  | zero =>
    intro k i hd hk
    obtain ⟨k, rfl⟩ : ∃ m, k = m + 1 := ⟨k - 1, by omega⟩
    exact ⟨true, by simp only [impl_onlyNameBytes.l0]; rw [if_neg (by omega)], by simp; intro j h1 h2; omega⟩
  | succ d ih =>
    intro k i hd hk
    obtain ⟨k, rfl⟩ : ∃ m, k = m + 1 := ⟨k - 1, by omega⟩
    simp only [impl_onlyNameBytes.l0]
    rw [if_pos (by omega), if_pos (by omega), if_pos (by omega), wr (n := (i : Int) + 1) (by omega)]
    obtain ⟨b, hb, hiff⟩ := ih k (i + 1) (by omega) (by omega)
    have hb' : impl_onlyNameBytes.l0 k s s.size ((i : Int) + 1) = some b := by simpa using hb
    rw [hb']
    by_cases hc : nameB (bt s i)
    · refine ⟨b, ?_, ?_⟩
      · unfold nameB at hc
        rcases hc with hc | hc
        · rw [if_neg (by omega), if_neg (by omega)]
        · rw [if_pos (by omega), if_neg (by omega), if_neg (by omega)]
      · rw [hiff]
        constructor
        · intro h j h1 h2
          by_cases e : j = i
          · subst e; exact hc
          · exact h j (by omega) h2
        · intro h j h1 h2; exact h j (by omega) h2
    · refine ⟨false, ?_, ?_⟩
      · unfold nameB at hc
        have c1 : ¬ (97 ≤ bt s i ∧ bt s i ≤ 122) := fun h => hc (Or.inl h)
        have c2 : ¬ (48 ≤ bt s i ∧ bt s i ≤ 57) := fun h => hc (Or.inr h)
        by_cases c3 : bt s i < 97
        · rw [if_pos c3]
          by_cases c4 : bt s i < 48
          · rw [if_pos c4]
          · rw [if_neg c4, if_pos (by omega)]
        · rw [if_neg c3, if_pos (by omega), if_neg (by omega), if_pos (by omega)]
      · simp; exact ⟨i, by omega, by omega, hc⟩

theorem l01Name_eq (k : Nat) (s : ByteArray) (hk : 20 < k) : spec_l01Name.f k s = some (decide (nameOk s)) := by
  have hj : ∀ (b : Bool), s.size ≤ 10 → ∃ r, spec_l01Name.j0 k s b = some r ∧ (r = true ↔ (b = false ∧ ∀ j : Nat, j < s.size → nameB (bt s j))) := by
    intro b hs
    obtain ⟨k, rfl⟩ : ∃ m, k = m + 1 := ⟨k - 1, by omega⟩
    obtain ⟨r, hr, hiff⟩ := name_l0 s hs s.size k 0 (by omega) (by omega)
    simp only [spec_l01Name.j0]
    cases b
    · exact ⟨r, by simpa using hr, by rw [hiff]; simp⟩
    · exact ⟨false, by simp, by simp⟩
  unfold spec_l01Name.f
  by_cases h0 : s.size = 0
  · rw [if_pos ((bytes_nil s).2 h0)]
    obtain ⟨r, hr, hiff⟩ := hj true (by omega)
    rw [hr]; congr 1; rw [Bool.eq_iff_iff, hiff]; simp [nameOk, h0]
  · rw [if_neg (fun h => h0 ((bytes_nil s).1 h))]
    by_cases h1 : (s.size : Int) > 10
    · rw [if_pos h1]
      obtain ⟨k, rfl⟩ : ∃ m, k = m + 1 := ⟨k - 1, by omega⟩
      simp only [spec_l01Name.j0]
      simp only [if_true]; congr 1; symm; rw [decide_eq_false_iff_not]; unfold nameOk; omega
    · rw [if_neg h1, if_pos (by omega), small_eq, Option.bind_some]
      obtain ⟨r, hr, hiff⟩ := hj (!decide (97 ≤ bt s 0 ∧ bt s 0 ≤ 122)) (by omega)
      rw [hr]; congr 1; rw [Bool.eq_iff_iff, hiff, decide_eq_true_iff]; unfold nameOk
      constructor
      · rintro ⟨a, b⟩; exact ⟨by omega, by omega, by simpa using a, b⟩
      · rintro ⟨a, b, c, d⟩; exact ⟨by simpa using c, d⟩

theorem IsName_eq (k : Nat) (s : ByteArray) (hk : 20 < k) : impl_IsName.f k s = some (decide (nameOk s)) := by
  unfold impl_IsName.f
  by_cases h0 : (s.size : Int) < 1
  · rw [if_pos h0]; congr 1; symm; rw [decide_eq_false_iff_not]; unfold nameOk; omega
  · rw [if_neg h0]
    by_cases h1 : (s.size : Int) > 10
    · rw [if_pos h1]; congr 1; symm; rw [decide_eq_false_iff_not]; unfold nameOk; omega
    · rw [if_neg h1, if_pos (by omega)]
      by_cases h2 : bt s 0 < 97
      · rw [if_pos h2]; congr 1; symm; rw [decide_eq_false_iff_not]; unfold nameOk; omega
      · rw [if_neg h2]
        by_cases h3 : bt s 0 > 122
        · rw [if_pos h3]; congr 1; symm; rw [decide_eq_false_iff_not]; unfold nameOk; omega
        · rw [if_neg h3]
          unfold impl_onlyNameBytes.f
          obtain ⟨r, hr, hiff⟩ := onlyName_l0 s (by omega) s.size k 0 (by omega) (by omega)
          have hr' : impl_onlyNameBytes.l0 k s s.size 0 = some r := by simpa using hr
          rw [hr', Option.bind_some]; congr 1; rw [Bool.eq_iff_iff, hiff, decide_eq_true_iff]; unfold nameOk
          constructor
          · intro a; exact ⟨by omega, by omega, by omega, fun j h => a j (by omega) h⟩
          · rintro ⟨a, b, c, d⟩ j _ h; exact d j h

theorem cmpT_eq (a b : Int) : cmp_Compare_int64.f a b = some (if a < b then -1 else if a > b then 1 else 0) := by
  unfold cmp_Compare_int64.f cmp_isNaN_int64.f
  simp only [Option.bind_some, bne_self_eq_false, Bool.false_eq_true, if_false]
  split
  · rfl
  · split <;> rfl
theorem sgn_eq (a b c d : Int) : ∃ u v, spec_l02Compare.f a b c d = some v ∧ impl_Ratio_compare.f c d a b = some u ∧ (v ≥ 0 ↔ u ≤ 0) := by
  unfold spec_l02Compare.f impl_Ratio_compare.f
  rw [cmpT_eq]
  generalize wrap64 (a * d) = x
  generalize wrap64 (c * b) = y
  simp only [Option.bind_some]
  by_cases h1 : x < y
  · refine ⟨_, _, by rw [if_pos h1], rfl, ?_⟩
    have h2 : ¬ y < x := by omega
    rw [if_neg h2, if_pos h1]; decide
  · by_cases h2 : x > y
    · refine ⟨_, _, by rw [if_neg h1, if_pos h2], rfl, ?_⟩
      have h3 : y < x := h2
      rw [if_pos h3]; decide
    · refine ⟨_, _, by rw [if_neg h1, if_neg h2], rfl, ?_⟩
      have h3 : ¬ y < x := h2
      have h4 : ¬ y > x := by omega
      rw [if_neg h3, if_neg h4]
def ElOk (p : S41) : Prop := RatOk p.f0 p.f1 ∧ p.f0 < 2 * p.f1
theorem tun_l0 (a : ByteArray) (l : List S41) (hl : l.length = 12) (o : Bool) (ho : ((if (rd_T41 l 0).f0 = 1 then some ((rd_T41 l 0).f1 == 1) else some false) : Option Bool) = some o) (d : Nat) : ∀ (i : Nat), l.length = i + d →
    ∃ r : Bool, (∀ k, 1000001 + d < k → spec_l04Ok.l0 k l i = some (r && o) ∧ impl_ValidTuning.l0 k l l.length i a l = some r) ∧ (r = true → ∀ j : Nat, i ≤ j → j < l.length → ElOk (rd_T41 l j)) := by
  induction d with
  | zero =>
    intro i hd
    refine ⟨true, fun k hk => ?_, fun _ j h1 h2 => by omega⟩
    obtain ⟨k, rfl⟩ : ∃ m, k = m + 1 := ⟨k - 1, by omega⟩
    have e : ¬ (i : Int) < (l.length : Int) := by omega
    have e1 : 0 < (l.length : Int) := by omega
    simp only [spec_l04Ok.l0, impl_ValidTuning.l0]
    rw [if_neg e, if_neg e, if_pos e1, ho]; exact ⟨by rw [Bool.true_and], rfl⟩
  | succ d ih =>
    intro i hd
    have e : (i : Int) < (l.length : Int) := by omega
    have e0 : 0 ≤ (i : Int) := by omega
    have ew : wrap64 ((i : Int) + 1) = ((i + 1 : Nat) : Int) := by rw [wr (n := (i : Int) + 1) (by omega)]; omega
    generalize hp : rd_T41 l (i : Int) = p
    have fin : ∀ (hbad : ∀ k, 1000001 < k → spec_l04Ok.l0 (k + 1) l i = some false ∧ impl_ValidTuning.l0 (k + 1) l l.length i a l = some false),
        ∃ r : Bool, (∀ k, 1000001 + (d + 1) < k → spec_l04Ok.l0 k l i = some (r && o) ∧ impl_ValidTuning.l0 k l l.length i a l = some r) ∧ (r = true → ∀ j : Nat, i ≤ j → j < l.length → ElOk (rd_T41 l j)) := fun hbad => by
      refine ⟨false, fun k hk => ?_, fun h => by simp at h⟩
      obtain ⟨k, rfl⟩ : ∃ m, k = m + 1 := ⟨k - 1, by omega⟩
      rw [Bool.false_and]; exact hbad k (by omega)
    by_cases c1 : RatOk p.f0 p.f1
    · have hm : wrap64 (2 * p.f1) = 2 * p.f1 := by have := c1.2.1; exact wr (by omega)
      by_cases c2 : p.f0 ≥ 2 * p.f1
      · apply fin
        intro k hk
        simp only [spec_l04Ok.l0, impl_ValidTuning.l0, hp, l02Ok_eq k p.f0 p.f1 (by omega), ValidRatio_eq k p.f0 p.f1 (by omega), Option.bind_some, decide_eq_true c1, if_true, hm]
        rw [if_pos e, if_pos e0, if_pos c2, if_pos e, if_pos e0, if_pos e, if_pos c2]; exact ⟨rfl, rfl⟩
      · obtain ⟨r, h1, h2⟩ := ih (i + 1) (by omega)
        have hel : ElOk p := ⟨c1, by omega⟩
        by_cases c3 : (i : Int) > 0
        · have wj : wrap64 ((i : Int) - 1) = (i : Int) - 1 := wr (by omega)
          have j0 : 0 ≤ (i : Int) - 1 := by omega
          have j1 : (i : Int) - 1 < (l.length : Int) := by omega
          generalize hq : rd_T41 l ((i : Int) - 1) = q
          obtain ⟨u, v, s1, s2, s3⟩ := sgn_eq q.f0 q.f1 p.f0 p.f1
          by_cases c4 : v ≥ 0
          · have c5 := s3.1 c4
            apply fin
            intro k hk
            simp only [spec_l04Ok.l0, impl_ValidTuning.l0, wj, hp, hq, s1, s2, l02Ok_eq k p.f0 p.f1 (by omega), ValidRatio_eq k p.f0 p.f1 (by omega), Option.bind_some, decide_eq_true c1, if_true, hm]
            rw [if_pos e, if_pos e0, if_neg c2, if_pos c3, if_pos j0, if_pos j1, if_pos c4, if_pos e, if_pos e0, if_pos e, if_neg c2, if_pos c3, if_pos j0, if_pos j1, if_pos c5]; exact ⟨rfl, rfl⟩
          · have c5 : ¬ u ≤ 0 := fun h => c4 (s3.2 h)
            refine ⟨r, fun k hk => ?_, fun ho j q1 q2 => ?_⟩
            · obtain ⟨k, rfl⟩ : ∃ m, k = m + 1 := ⟨k - 1, by omega⟩
              simp only [spec_l04Ok.l0, impl_ValidTuning.l0, wj, hp, hq, s1, s2, l02Ok_eq k p.f0 p.f1 (by omega), ValidRatio_eq k p.f0 p.f1 (by omega), Option.bind_some, decide_eq_true c1, if_true, hm, ew, (h1 k (by omega)).1, (h1 k (by omega)).2]
              rw [if_pos e, if_pos e0, if_neg c2, if_pos c3, if_pos j0, if_pos j1, if_neg c4, if_pos e, if_pos e0, if_pos e, if_neg c2, if_pos c3, if_pos j0, if_pos j1, if_neg c5]; exact ⟨rfl, rfl⟩
            · by_cases z : j = i
              · subst z; rw [hp]; exact hel
              · exact h2 ho j (by omega) q2
        · refine ⟨r, fun k hk => ?_, fun ho j q1 q2 => ?_⟩
          · obtain ⟨k, rfl⟩ : ∃ m, k = m + 1 := ⟨k - 1, by omega⟩
            simp only [spec_l04Ok.l0, impl_ValidTuning.l0, hp, l02Ok_eq k p.f0 p.f1 (by omega), ValidRatio_eq k p.f0 p.f1 (by omega), Option.bind_some, decide_eq_true c1, if_true, hm, ew, (h1 k (by omega)).1, (h1 k (by omega)).2]
            rw [if_pos e, if_pos e0, if_neg c2, if_neg c3, if_pos e, if_pos e0, if_pos e, if_neg c2, if_neg c3]; exact ⟨rfl, rfl⟩
          · by_cases z : j = i
            · subst z; rw [hp]; exact hel
            · exact h2 ho j (by omega) q2
    · apply fin
      intro k hk
      simp only [spec_l04Ok.l0, impl_ValidTuning.l0, hp, l02Ok_eq k p.f0 p.f1 (by omega), ValidRatio_eq k p.f0 p.f1 (by omega), Option.bind_some, decide_eq_false c1]
      rw [if_pos e, if_pos e0, if_pos e, if_pos e0, if_pos e]; exact ⟨rfl, rfl⟩
structure GoodT (l : List S41) : Prop where
  len : l.length = 12
  el : ∀ j : Nat, j < 12 → ElOk (rd_T41 l j)
theorem tuning_eq (a : ByteArray) (l : List S41) :
    ∃ r : Bool, (∀ k, 1000100 < k → spec_l04Ok.f k a l = some r ∧ impl_ValidTuning.f k a l = some r) ∧ (r = true → GoodT l) := by
  unfold spec_l04Ok.f impl_ValidTuning.f
  by_cases h1 : nameOk a
  · by_cases h2 : (l.length : Int) = 12
    · have h0 : 0 < (l.length : Int) := by omega
      generalize hp : rd_T41 l 0 = p
      obtain ⟨o, ho⟩ : ∃ o, ((if p.f0 = 1 then some (p.f1 == 1) else some false) : Option Bool) = some o := by split <;> exact ⟨_, rfl⟩
      obtain ⟨r, hr, hg⟩ := tun_l0 a l (by omega) o (by rw [hp]; exact ho) l.length 0 (by omega)
      have hb : (!(p.f0 == 1) || (!(p.f1 == 1))) = !o := by
        by_cases c : p.f0 = 1
        · rw [if_pos c] at ho; have := Option.some.inj ho; subst this; simp [c]
        · rw [if_neg c] at ho; have := Option.some.inj ho; subst this; simp [c]
      refine ⟨r && o, fun k hk => ?_, fun h => ⟨by omega, fun j hj => hg (by simp at h; exact h.1) j (by omega) (by omega)⟩⟩
      obtain ⟨k, rfl⟩ : ∃ m, k = m + 1 := ⟨k - 1, by omega⟩
      have e1 := (hr (k + 1) (by omega)).1
      have e2 := (hr k (by omega)).2
      simp only [Int.natCast_zero] at e1 e2
      rw [l01Name_eq _ a (by omega), IsName_eq _ a (by omega)]
      simp only [Option.bind_some, decide_eq_true h1, if_true, if_pos h2, if_pos h0, hb, impl_ValidTuning.j0, e1, e2]
      first | done | (cases o <;> simp)
    · refine ⟨false, fun k hk => ?_, fun h => by simp at h⟩
      obtain ⟨k, rfl⟩ : ∃ m, k = m + 1 := ⟨k - 1, by omega⟩
      rw [l01Name_eq _ a (by omega), IsName_eq _ a (by omega)]
      simp only [Option.bind_some, decide_eq_true h1, if_true, if_neg h2, impl_ValidTuning.j0]; exact ⟨trivial, trivial⟩
  · refine ⟨false, fun k hk => ?_, fun h => by simp at h⟩
    obtain ⟨k, rfl⟩ : ∃ m, k = m + 1 := ⟨k - 1, by omega⟩
    rw [l01Name_eq _ a (by omega), IsName_eq _ a (by omega)]
    simp [h1, impl_ValidTuning.j0]


/-- The pairs of numbers from m on, n of them. -/
def seqR : Nat → Int → List S41
  | 0, _ => []
  | n + 1, m => ⟨m, m + 1⟩ :: seqR n (m + 2)
theorem seqR_length (n : Nat) : ∀ m, (seqR n m).length = n := by
  induction n with
  | zero => intro m; rfl
  | succ n ih => intro m; simp [seqR, ih]
theorem rdT_mid (pre post : List S41) (x : S41) (i : Nat) (h : pre.length = i) : rd_T41 (pre ++ x :: post) (i : Int) = x := by
  rw [rdT_lt _ i (by simp; omega), List.getElem_append_right (by omega)]
  simp [h]
theorem markR_l0 (d : Nat) : ∀ (k i : Nat) (m : Int) (pre post : List S41), pre.length = i → post.length = d → i + d ≤ 1048576 → 0 ≤ m → m + 2 * d ≤ 4000000 → d < k →
    laws_markRatioS.l0 k (pre ++ post) m i = some (m + 2 * d, pre ++ seqR d m) := by
  induction d with
  | zero =>
    intro k i m pre post h2 h3 h4 h5 h6 hk
    obtain ⟨k, rfl⟩ : ∃ m, k = m + 1 := ⟨k - 1, by omega⟩
    obtain rfl := List.length_eq_zero_iff.1 h3
    simp only [laws_markRatioS.l0]; rw [if_neg (by simp; omega)]; simp [seqR]
  | succ d ih =>
    intro k i m pre post h2 h3 h4 h5 h6 hk
    obtain ⟨k, rfl⟩ : ∃ m, k = m + 1 := ⟨k - 1, by omega⟩
    cases post with
    | nil => simp at h3
    | cons x post =>
      have hp : post.length = d := by simpa using h3
      have a1 : i + 1 + d ≤ 1048576 := by omega
      have a2 : 0 ≤ m + 2 := by omega
      have a3 : m + 2 + 2 * (d : Int) ≤ 4000000 := by omega
      have a4 : d < k := by omega
      have a5 : m + 2 + 2 * (d : Int) = m + 2 * ((d + 1 : Nat) : Int) := by omega
      have hlen : (pre ++ x :: post).length = i + d + 1 := by simp; omega
      have e1 : (i : Int) < ((pre ++ x :: post).length : Int) := by omega
      have e2 : 0 ≤ (i : Int) := by omega
      have w1 : wrap64 (m + 1) = m + 1 := wr (by omega)
      have w2 : wrap64 (m + 1 + 1) = m + 2 := by rw [wr (by omega)]; omega
      have w3 : wrap64 ((i : Int) + 1) = ((i + 1 : Nat) : Int) := by rw [wr (n := (i : Int) + 1) (by omega)]; omega
      have s1 : ∀ y : S41, (pre ++ x :: post).set i y = pre ++ y :: post := by
        intro y; rw [List.set_append_right _ _ (by omega), h2, Nat.sub_self, List.set_cons_zero]
      have s2 : ∀ z y : S41, (pre ++ z :: post).set i y = pre ++ y :: post := by
        intro z y; rw [List.set_append_right _ _ (by omega), h2, Nat.sub_self, List.set_cons_zero]
      simp only [laws_markRatioS.l0]
      rw [if_pos e1, if_pos e2, Option.bind_some, Int.toNat_natCast, s1, rdT_mid _ _ _ i h2, rdT_mid _ _ _ i h2, s2, w1, w2, w3]
      have := ih k (i + 1) (m + 2) (pre ++ [⟨m, m + 1⟩]) post (by simp [h2]) hp a1 a2 a3 a4
      rw [List.append_assoc] at this
      rw [show (⟨m, m + 1⟩ : S41) :: post = [⟨m, m + 1⟩] ++ post from rfl, this, a5]
      simp [seqR]
theorem markT_eq (k : Nat) (a : ByteArray) (l : List S41) (hl : l.length ≤ 1048576) (hk : l.length < k) : laws_markTuning.f k a l 1 = some (1 + 2 * (l.length : Int), seqR l.length 1) := by
  unfold laws_markTuning.f laws_markRatioS.f
  have := markR_l0 l.length k 0 1 [] l rfl rfl (by omega) (by omega) (by omega) hk
  rw [List.nil_append, Int.natCast_zero] at this
  rw [this]; rfl
theorem heldR_l0 (d : Nat) : ∀ (k i : Nat) (m : Int) (pre : List S41), pre.length = i → i + d ≤ 1048576 → 0 ≤ m → m + 2 * d ≤ 4000000 → d < k →
    laws_heldRatioS.l0 k (pre ++ seqR d m) m i = some (m + 2 * d) := by
  induction d with
  | zero =>
    intro k i m pre h2 h4 h5 h6 hk
    obtain ⟨k, rfl⟩ : ∃ m, k = m + 1 := ⟨k - 1, by omega⟩
    have hl : (pre ++ seqR 0 m).length = i := by simp [seqR, h2]
    simp only [laws_heldRatioS.l0]; rw [if_neg (by omega)]; simp
  | succ d ih =>
    intro k i m pre h2 h4 h5 h6 hk
    obtain ⟨k, rfl⟩ : ∃ m, k = m + 1 := ⟨k - 1, by omega⟩
    have hlen : (pre ++ seqR (d + 1) m).length = i + d + 1 := by rw [List.length_append, seqR_length]; omega
    have e1 : (i : Int) < ((pre ++ seqR (d + 1) m).length : Int) := by omega
    have e2 : 0 ≤ (i : Int) := by omega
    have w1 : wrap64 (m + 1) = m + 1 := wr (by omega)
    have w2 : wrap64 (m + 1 + 1) = m + 2 := by rw [wr (by omega)]; omega
    have w3 : wrap64 ((i : Int) + 1) = ((i + 1 : Nat) : Int) := by rw [wr (n := (i : Int) + 1) (by omega)]; omega
    have er : rd_T41 (pre ++ seqR (d + 1) m) (i : Int) = ⟨m, m + 1⟩ := rdT_mid pre (seqR d (m + 2)) ⟨m, m + 1⟩ i h2
    simp only [laws_heldRatioS.l0]
    rw [if_pos e1, if_pos e2, er, w1, w2, w3, if_pos rfl, if_pos rfl]
    have := ih k (i + 1) (m + 2) (pre ++ [⟨m, m + 1⟩]) (by simp [h2]) (by omega) (by omega) (by omega) (by omega)
    rw [List.append_assoc] at this
    rw [show seqR (d + 1) m = [(⟨m, m + 1⟩ : S41)] ++ seqR d (m + 2) from rfl, this]
    congr 1; omega
theorem heldT_eq (k : Nat) (a : ByteArray) (n : Nat) (hl : n ≤ 1048576) (hk : n < k) : laws_heldTuning.f k a (seqR n 1) 1 = some (1 + 2 * (n : Int)) := by
  unfold laws_heldTuning.f laws_heldRatioS.f
  have := heldR_l0 n k 0 1 [] rfl (by omega) (by omega) (by omega) hk
  rw [List.nil_append, Int.natCast_zero] at this
  have e : ¬ (1 + 2 * (n : Int)) < 0 := by omega
  rw [this, Option.bind_some, if_neg e]

theorem own_eq (a : ByteArray) (t : List S41) (h : t.length ≤ 1048576) : spec_l04Own.f a t = some (a, t) ∧ impl_Ratio.f t = some t := by
  unfold spec_l04Own.f impl_Ratio.f
  rw [Option.bind_some, Option.bind_some, List.nil_append, List.length_nil, if_pos (by omega), if_pos (by omega)]
  exact ⟨rfl, rfl⟩
theorem tuneTone_eq (a : ByteArray) (t : List S41) (x n d : Int) : ∃ r : ByteArray × List S41 × Int, r.2.1.length ≤ 1048576 ∧ ∀ k, 1000100 < k → spec_TuneTone.f k a t x n d = some r ∧ impl_TuneTone.f k a t x n d = some r := by
  obtain ⟨v, hv, hg⟩ := tuning_eq a t
  unfold spec_TuneTone.f impl_TuneTone.f
  cases v with
  | false => exact ⟨(⟨#[]⟩, [], 1), by simp, fun k hk => by rw [(hv k (by omega)).1, (hv k (by omega)).2]; exact ⟨rfl, rfl⟩⟩
  | true =>
    have hl := (hg rfl).len
    obtain ⟨o1, o2⟩ := own_eq a t (by omega)
    by_cases c : 1 ≤ x ∧ x ≤ 11
    · obtain ⟨w, hw, _⟩ := tuning_eq a (t.set x.toNat (⟨n, d⟩ : S41))
      have c1 : 0 ≤ x := by omega
      have c2 : x < (t.length : Int) := by omega
      cases w with
      | false =>
        refine ⟨(⟨#[]⟩, [], 6), by simp, fun k hk => ?_⟩
        rw [(hv k (by omega)).1, (hv k (by omega)).2, Option.bind_some, Option.bind_some, if_pos rfl, if_pos rfl, l00In_eq, within_eq, Option.bind_some, Option.bind_some, if_pos (decide_eq_true c), if_pos (decide_eq_true c), o1, o2]
        simp only [Option.bind_some]
        rw [if_pos c1, if_pos c2, if_pos c1, if_pos c2, (hw k (by omega)).1, (hw k (by omega)).2]
        exact ⟨rfl, rfl⟩
      | true =>
        refine ⟨(a, t.set x.toNat (⟨n, d⟩ : S41), 0), by dsimp only; rw [List.length_set]; omega, fun k hk => ?_⟩
        rw [(hv k (by omega)).1, (hv k (by omega)).2, Option.bind_some, Option.bind_some, if_pos rfl, if_pos rfl, l00In_eq, within_eq, Option.bind_some, Option.bind_some, if_pos (decide_eq_true c), if_pos (decide_eq_true c), o1, o2]
        simp only [Option.bind_some]
        rw [if_pos c1, if_pos c2, if_pos c1, if_pos c2, (hw k (by omega)).1, (hw k (by omega)).2]
        exact ⟨rfl, rfl⟩
    · refine ⟨(⟨#[]⟩, [], 2), by simp, fun k hk => ?_⟩
      rw [(hv k (by omega)).1, (hv k (by omega)).2, Option.bind_some, Option.bind_some, if_pos rfl, if_pos rfl, l00In_eq, within_eq, Option.bind_some, Option.bind_some, if_neg (by rw [decide_eq_true_iff]; exact c), if_neg (by rw [decide_eq_true_iff]; exact c)]
      exact ⟨rfl, rfl⟩
theorem FnExactTuneTone : laws_FnExactTuneTone.Pure := by
  intro a l x n d ha hl _ _ _
  refine ⟨4000003, ?_⟩
  unfold laws_FnExactTuneTone.f
  obtain ⟨r, h1, h2⟩ := szTuning_eq a l 1048576 ha hl (by omega)
  rw [h1, Option.bind_some]
  by_cases c1 : r < 0
  · rw [if_pos c1]
  · have hll : l.length ≤ 1048576 := by omega
    have hml : (l.map toT).length ≤ 1048576 := by simp; omega
    have tt : ∀ k, 4000000 ≤ k → laws_toTuning.f k a l = some (a, l.map toT) := fun k hk => toTuning_eq k a l hll (by omega)
    have tr : laws_toRatio.f n d = some (n, d) := rfl
    have te : ∀ k, 4000000 ≤ k → laws_eqTuning.f k a (l.map toT) a (l.map toT) = some true := fun k hk => eqTuning_self k a _ hml (by simp; omega)
    obtain ⟨⟨b, rs, z⟩, hlen, hq⟩ := tuneTone_eq a (l.map toT) x n d
    dsimp only at hlen
    have ee : ∀ k, 4000000 ≤ k → laws_eqTuning.f k b rs b rs = some true := fun k hk => eqTuning_self k b _ hlen (by omega)
    have m1 : ∀ k, 4000000 ≤ k → laws_markTuning.f k a (l.map toT) 1 = some (1 + 2 * ((l.map toT).length : Int), seqR (l.map toT).length 1) := fun k hk => markT_eq k a _ hml (by omega)
    have m2 : ∀ k, 4000000 ≤ k → laws_markTuning.f k b rs 1 = some (1 + 2 * (rs.length : Int), seqR rs.length 1) := fun k hk => markT_eq k b _ hlen (by omega)
    have hh : ∀ k, 4000000 ≤ k → laws_heldTuning.f k b (seqR rs.length 1) 1 = some (1 + 2 * (rs.length : Int)) := fun k hk => heldT_eq k b _ hlen (by omega)
    have c2 : ¬ (1 + 2 * ((l.map toT).length : Int)) < 0 := by omega
    have c3 : ¬ (1 + 2 * (rs.length : Int)) < 0 := by omega
    rw [if_neg c1, tt _ (by omega), tr]
    simp only [Option.bind_some]
    rw [(hq 4000003 (by omega)).1, (hq 4000003 (by omega)).2]
    simp only [Option.bind_some]
    rw [ee _ (by omega), Option.bind_some, if_pos rfl, bne_self_eq_false]
    rw [show (4000003 : Nat) = 4000002 + 1 from rfl]
    simp only [laws_FnExactTuneTone.j0, Bool.false_eq_true, if_false]
    rw [tt _ (by omega), Option.bind_some]
    dsimp only
    rw [te _ (by omega), Option.bind_some, if_pos rfl, m1 _ (by omega), Option.bind_some]
    dsimp only
    rw [if_neg c2, ee _ (by omega), Option.bind_some, if_pos rfl, bne_self_eq_false]
    rw [show (4000002 : Nat) = 4000001 + 1 from rfl]
    simp only [laws_FnExactTuneTone.j1, Bool.false_eq_true, if_false]
    rw [m2 _ (by omega), Option.bind_some]
    dsimp only
    rw [hh _ (by omega), Option.bind_some, if_neg c3, if_pos rfl, tt _ (by omega), tr]
    simp only [Option.bind_some]
    rw [(hq 4000001 (by omega)).2, Option.bind_some]
    dsimp only
    rw [ee _ (by omega), Option.bind_some, if_pos rfl, bne_self_eq_false]
    rw [show (4000001 : Nat) = 4000000 + 1 from rfl]
    simp only [laws_FnExactTuneTone.j2, Bool.false_eq_true, if_false]
    rw [hh _ (by omega), Option.bind_some, if_neg c3, if_pos rfl]

end Go.Proofs.Ytigjcobannhdlaa.Pure
