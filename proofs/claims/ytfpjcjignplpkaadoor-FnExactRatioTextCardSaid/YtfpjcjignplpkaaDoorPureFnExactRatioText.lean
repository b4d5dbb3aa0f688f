/- Proved: the plain statement of the law FnExactRatioText: the program's function and the reference's give the same answer. Conditions: none beyond the statement's own. -/
import Derived.Test.YtfpjcjignplpkaaDoorStmFnExactRatioText
namespace Go.Proofs.YtfpjcjignplpkaaDoor.Pure
open Go.RowKit Go.Proofs.YtfpjcjignplpkaaDoor.PFnExactRatioText Go.Proofs.YtfpjcjignplpkaaDoorW.PrintWords Go.Proofs.YtfpjcjignplpkaaDoorW.PrintLast
set_option linter.unusedVariables false
set_option linter.unusedSimpArgs false

theorem wr {n : Int} (h : -9223372036854775808 ≤ n ∧ n ≤ 9223372036854775807) : wrap64 n = n := by unfold wrap64; omega

/-- The digits of u, the last ahead, as numbers. -/
def le (u : Nat) : List Int := (Go.Lib.decDigits u).reverse.map fun b => (b.toNat : Int)
theorem le_small (u : Nat) (h : u < 10) : le u = [48 + (u : Int)] := by
  unfold le
  rw [Go.Lib.decDigits, dif_pos h]
  simp only [List.reverse_cons, List.reverse_nil, List.nil_append, List.map_cons, List.map_nil, UInt8.toNat_ofNat']
  rw [Nat.mod_eq_of_lt (by omega)]
  simp
theorem le_big (u : Nat) (h : ¬ u < 10) : le u = (48 + ((u % 10 : Nat) : Int)) :: le (u / 10) := by
  unfold le
  rw [Go.Lib.decDigits, dif_neg h]
  simp only [List.reverse_append, List.reverse_cons, List.reverse_nil, List.nil_append, List.singleton_append, List.map_cons, UInt8.toNat_ofNat']
  rw [Nat.mod_eq_of_lt (by omega)]
  simp
theorem tmod10 (m : Int) : Int.tmod m 10 = if m < 0 then -((m.natAbs % 10 : Nat) : Int) else ((m.natAbs % 10 : Nat) : Int) := by
  by_cases h : m < 0
  · rw [if_pos h]
    obtain ⟨a, rfl⟩ : ∃ a : Int, m = -a := ⟨-m, by omega⟩
    rw [Int.neg_tmod, Int.tmod_eq_emod_of_nonneg (by omega)]
    omega
  · rw [if_neg h, Int.tmod_eq_emod_of_nonneg (by omega)]
    omega
theorem tdiv10 (m : Int) : Int.tdiv m 10 = if m < 0 then -((m.natAbs / 10 : Nat) : Int) else ((m.natAbs / 10 : Nat) : Int) := by
  by_cases h : m < 0
  · rw [if_pos h]
    obtain ⟨a, rfl⟩ : ∃ a : Int, m = -a := ⟨-m, by omega⟩
    rw [Int.neg_tdiv, Int.tdiv_eq_ediv_of_nonneg (by omega)]
    omega
  · rw [if_neg h, Int.tdiv_eq_ediv_of_nonneg (by omega)]
    omega
theorem dec_step (n : Int) (k : Nat) (z : List Int) (m : Int) (h0 : m ≠ 0) (hb : -9223372036854775808 ≤ m ∧ m ≤ 9223372036854775807) (hz : z.length < 1000) :
    spec_l01Dec.l0 (k + 1) n z m = spec_l01Dec.l0 k n (z ++ [48 + ((m.natAbs % 10 : Nat) : Int)]) (Int.tdiv m 10) := by
  have hl : z.length < 140737488355328 := by omega
  have hd : wrap64 (Int.tdiv m 10) = Int.tdiv m 10 := by
    rw [tdiv10]; exact wr (by split <;> omega)
  simp only [spec_l01Dec.l0]
  rw [if_neg h0, hd]
  have hm := tmod10 m
  by_cases c : Int.tmod m 10 < 0
  · rw [if_pos c, if_pos hl]
    have h1 : m < 0 := by
      by_cases q : m < 0
      · exact q
      · rw [if_neg q] at hm; omega
    rw [if_pos h1] at hm
    rw [hm, wr (n := - -((m.natAbs % 10 : Nat) : Int)) (by omega), wr (n := 48 + - -((m.natAbs % 10 : Nat) : Int)) (by omega)]
    congr 3
    omega
  · rw [if_neg c, if_pos hl]
    have h1 : Int.tmod m 10 = ((m.natAbs % 10 : Nat) : Int) := by
      by_cases q : m < 0
      · rw [if_pos q] at hm; omega
      · rw [if_neg q] at hm; exact hm
    rw [h1, wr (n := 48 + ((m.natAbs % 10 : Nat) : Int)) (by omega)]
    congr 3
    omega
theorem dec_l0 (n : Int) (u : Nat) : ∀ (k : Nat) (m : Int) (z : List Int), 1 ≤ u → m.natAbs = u → -9223372036854775808 ≤ m ∧ m ≤ 9223372036854775807 → z.length + Go.Lib.nDigits u < 1000 →
    spec_l01Dec.l0 (k + Go.Lib.nDigits u) n z m = spec_l01Dec.l0 k n (z ++ le u) 0 := by
  induction u using Nat.strongRecOn with
  | _ u ih =>
    intro k m z h1 hm hb hz
    by_cases h : u < 10
    · rw [Go.Lib.nDigits_small h, dec_step n k z m (by omega) hb (by rw [Go.Lib.nDigits_small h] at hz; omega), le_small u h, hm, Nat.mod_eq_of_lt h, tdiv10, hm, Nat.div_eq_of_lt h]
      congr 1
      split <;> simp
    · rw [Go.Lib.nDigits_big h] at hz ⊢
      rw [← Nat.add_assoc, dec_step n _ z m (by omega) hb (by omega), hm, ih (u / 10) (by omega) k (Int.tdiv m 10) _ (by omega) (by rw [tdiv10, hm]; split <;> omega) (by rw [tdiv10]; split <;> omega) (by simp; omega), le_big u h, List.append_assoc]
      rfl
theorem rev_l1 (x : List Int) (hx : x.length ≤ 1000) (i : Nat) : ∀ (k : Nat) (z : List Int), i ≤ x.length → z.length + i ≤ 1000 → i < k →
    spec_l01Dec.l1 k x z ((i : Int) - 1) = some (strOfNums (z ++ (x.take i).reverse)) := by
  induction i with
  | zero =>
    intro k z h1 h2 hk
    obtain ⟨k, rfl⟩ : ∃ m, k = m + 1 := ⟨k - 1, by omega⟩
    simp only [spec_l01Dec.l1]
    rw [if_neg (by omega)]; simp
  | succ i ih =>
    intro k z h1 h2 hk
    obtain ⟨k, rfl⟩ : ∃ m, k = m + 1 := ⟨k - 1, by omega⟩
    have e : ((i + 1 : Nat) : Int) - 1 = (i : Int) := by omega
    have e1 : (i : Int) ≥ 0 := by omega
    have e2 : (i : Int) < (x.length : Int) := by omega
    have e3 : z.length < 140737488355328 := by omega
    have e4 : wrap64 ((i : Int) - 1) = (i : Int) - 1 := wr (by omega)
    have e5 : 0 ≤ (i : Int) := by omega
    have er : rd x i = x[i] := by unfold rd; rw [Int.toNat_natCast, List.getD_eq_getElem?_getD, List.getElem?_eq_getElem (by omega)]; rfl
    simp only [spec_l01Dec.l1, e]
    rw [if_pos e1, if_pos e5, if_pos e2, if_pos e3, e4, er, ih k (z ++ [x[i]]) (by omega) (by simp; omega) (by omega), List.take_succ_eq_append_getElem (by omega), List.reverse_append, List.reverse_singleton, List.append_assoc]
theorem strOf (l : List UInt8) : strOfNums (l.map fun b => (b.toNat : Int)) = ⟨l.toArray⟩ := by
  unfold strOfNums
  simp [List.map_map, Function.comp_def]
theorem nDigits_le (u : Nat) (h : u < 10 ^ 30) : Go.Lib.nDigits u ≤ 30 := by
  rcases Nat.lt_or_ge 30 (Go.Lib.nDigits u) with h1 | h1
  · exfalso
    have : ∀ (j u : Nat), j < Go.Lib.nDigits u → 10 ^ j ≤ u ∨ j = 0 := by
      intro j
      induction j with
      | zero => intro u _; exact .inr rfl
      | succ j ih =>
        intro u hu
        by_cases hs : u < 10
        · rw [Go.Lib.nDigits_small hs] at hu; omega
        · rw [Go.Lib.nDigits_big hs] at hu
          left
          rcases ih (u / 10) (by omega) with q | q
          · rw [Nat.pow_succ]; omega
          · subst q; simp; omega
    rcases this 30 u h1 with q | q <;> omega
  · exact h1
theorem l01Dec_eq (n : Int) (hb : -9223372036854775808 ≤ n ∧ n ≤ 9223372036854775807) (k : Nat) (hk : 200 < k) : spec_l01Dec.f k n = some ⟨(Go.Lib.itoa n).toArray⟩ := by
  unfold spec_l01Dec.f
  by_cases h0 : n = 0
  · subst h0
    rw [if_pos rfl]
    unfold Go.Lib.itoa
    rw [if_neg (by omega), show (0 : Int).toNat = 0 from rfl, Go.Lib.decDigits, dif_pos (by omega)]
    rfl
  · rw [if_neg h0]
    have hd := nDigits_le n.natAbs (by omega)
    obtain ⟨j, rfl⟩ : ∃ j, k = j + 2 + Go.Lib.nDigits n.natAbs := ⟨k - 2 - Go.Lib.nDigits n.natAbs, by omega⟩
    rw [dec_l0 n n.natAbs (j + 2) n [] (by omega) rfl hb (by simp; omega), List.nil_append]
    have hle : (le n.natAbs).length ≤ 30 := by
      unfold le
      rw [List.length_map, List.length_reverse, Go.Lib.decDigits_eq, List.length_map, List.length_range]; exact hd
    have hrev : (le n.natAbs).reverse = (Go.Lib.decDigits n.natAbs).map fun b => (b.toNat : Int) := by
      unfold le; rw [← List.map_reverse, List.reverse_reverse]
    simp only [spec_l01Dec.l0, if_true]
    unfold Go.Lib.itoa
    by_cases hn : n < 0
    · have hl : (le n.natAbs).length < 140737488355328 := by omega
      rw [if_pos hn, if_pos hl, if_pos hn]
      simp only [spec_l01Dec.j1]
      have ew : wrap64 (((le n.natAbs ++ [(45 : Int)]).length : Int) - 1) = ((le n.natAbs ++ [(45 : Int)]).length : Int) - 1 := wr (by simp; omega)
      rw [ew, rev_l1 _ (by simp; omega) (le n.natAbs ++ [(45 : Int)]).length j [] (Nat.le_refl _) (by simp; omega) (by simp; omega), List.take_length, List.nil_append, List.reverse_append, hrev]
      congr 1
      exact strOf (45 :: Go.Lib.decDigits n.natAbs)
    · rw [if_neg hn, if_neg hn]
      simp only [spec_l01Dec.j1]
      rw [wr (n := ((le n.natAbs).length : Int) - 1) (by omega), rev_l1 _ (by omega) (le n.natAbs).length j [] (Nat.le_refl _) (by simp; omega) (by omega), List.take_length, List.nil_append, hrev, show n.toNat = n.natAbs by omega]
      congr 1
      exact strOf _
theorem itoa_size (n : Int) (hb : -9223372036854775808 ≤ n ∧ n ≤ 9223372036854775807) : (⟨(Go.Lib.itoa n).toArray⟩ : ByteArray).size ≤ 32 := by
  have hd := nDigits_le n.natAbs (by omega)
  show ((Go.Lib.itoa n).toArray).size ≤ 32
  unfold Go.Lib.itoa
  split
  · rw [List.size_toArray, List.length_cons, Go.Lib.decDigits_length]; omega
  · rw [List.size_toArray, Go.Lib.decDigits_length, show n.toNat = n.natAbs by omega]; omega
theorem Decimal_eq (n : Int) (hb : -9223372036854775808 ≤ n ∧ n ≤ 9223372036854775807) : impl_Decimal.f n = some ⟨(Go.Lib.itoa n).toArray⟩ := by
  unfold impl_Decimal.f strconv_FormatInt.f
  rw [if_pos ⟨rfl, hb⟩]; rfl

theorem l00In_eq (a b c : Int) : spec_l00In.f a b c = some (decide (b ≤ a ∧ a ≤ c)) := by
  unfold spec_l00In.f
  by_cases h : a ≥ b <;> simp [h]

theorem within_eq (a b c : Int) : impl_within.f a b c = some (decide (b ≤ a ∧ a ≤ c)) := by
  unfold impl_within.f
  by_cases h : a ≥ b <;> simp [h]

theorem gcd_step (a b : Nat) : Nat.gcd b (a % b) = Nat.gcd a b := by
  rw [Nat.gcd_comm a b, Nat.gcd_rec b a, Nat.gcd_comm]
theorem l02Gcd_l0 (d : Nat) : ∀ (k a b : Nat), b ≤ d → d < k → spec_l02Gcd.l0 k (a : Int) (b : Int) = some (Nat.gcd a b : Int) := by
  induction d with
  | zero =>
    intro k a b hb hk
    obtain ⟨k, rfl⟩ : ∃ m, k = m + 1 := ⟨k - 1, by omega⟩
    obtain rfl : b = 0 := by omega
    simp [spec_l02Gcd.l0]
  | succ d ih =>
    intro k a b hb hk
    obtain ⟨k, rfl⟩ : ∃ m, k = m + 1 := ⟨k - 1, by omega⟩
    simp only [spec_l02Gcd.l0]
    by_cases h : (b : Int) = 0
    · rw [if_pos h]; obtain rfl : b = 0 := by omega
      simp
    · rw [if_neg h]
      have e : Int.tmod (a : Int) b = ((a % b : Nat) : Int) := rfl
      have hlt := Nat.mod_lt a (show b > 0 by omega)
      rw [e, ih k b (a % b) (by omega) (by omega), gcd_step]
theorem commonDivisor_l0 (d : Nat) : ∀ (k a b : Nat), b ≤ d → d < k → impl_commonDivisor.l0 k (a : Int) (b : Int) = some (Nat.gcd a b : Int) := by
  induction d with
  | zero =>
    intro k a b hb hk
    obtain ⟨k, rfl⟩ : ∃ m, k = m + 1 := ⟨k - 1, by omega⟩
    obtain rfl : b = 0 := by omega
    simp [impl_commonDivisor.l0]
  | succ d ih =>
    intro k a b hb hk
    obtain ⟨k, rfl⟩ : ∃ m, k = m + 1 := ⟨k - 1, by omega⟩
    simp only [impl_commonDivisor.l0]
    by_cases h : (b : Int) = 0
    · rw [if_pos h]; obtain rfl : b = 0 := by omega
      simp
    · rw [if_neg h]
      have e : Int.tmod (a : Int) b = ((a % b : Nat) : Int) := rfl
      have hlt := Nat.mod_lt a (show b > 0 by omega)
      rw [e, ih k b (a % b) (by omega) (by omega), gcd_step]
theorem l02Gcd_eq (k : Nat) (a b : Int) (ha : 0 ≤ a) (hb : 0 ≤ b) (hk : b.toNat < k) : spec_l02Gcd.f k a b = some (Nat.gcd a.toNat b.toNat : Int) := by
  unfold spec_l02Gcd.f
  have := l02Gcd_l0 b.toNat k a.toNat b.toNat (Nat.le_refl _) hk
  rwa [show ((a.toNat : Nat) : Int) = a by omega, show ((b.toNat : Nat) : Int) = b by omega] at this
theorem commonDivisor_eq (k : Nat) (a b : Int) (ha : 0 ≤ a) (hb : 0 ≤ b) (hk : b.toNat < k) : impl_commonDivisor.f k a b = some (Nat.gcd a.toNat b.toNat : Int) := by
  unfold impl_commonDivisor.f
  have := commonDivisor_l0 b.toNat k a.toNat b.toNat (Nat.le_refl _) hk
  rwa [show ((a.toNat : Nat) : Int) = a by omega, show ((b.toNat : Nat) : Int) = b by omega] at this
/-- Two numbers that are a valid ratio. -/
def RatOk (x y : Int) : Prop := (1 ≤ x ∧ x ≤ 1000000) ∧ (1 ≤ y ∧ y ≤ 1000000) ∧ Nat.gcd x.toNat y.toNat = 1
instance ratOkDec (x y : Int) : Decidable (RatOk x y) := by unfold RatOk; infer_instance
theorem one_beq (n : Nat) : (((n : Int) == 1) : Bool) = decide (n = 1) := by
  rw [Bool.eq_iff_iff, beq_iff_eq, decide_eq_true_iff]; omega
theorem l02Ok_eq (k : Nat) (x y : Int) (hk : 1000000 < k) : spec_l02Ok.f k x y = some (decide (RatOk x y)) := by
  unfold spec_l02Ok.f spec_l02Part.f
  rw [l00In_eq, l00In_eq]
  simp only [Option.bind_some]
  by_cases h1 : 1 ≤ x ∧ x ≤ 1000000
  · by_cases h2 : 1 ≤ y ∧ y ≤ 1000000
    · rw [l02Gcd_eq k x y (by omega) (by omega) (by omega)]
      simp only [Option.bind_some, decide_eq_true h1, decide_eq_true h2, if_true]
      rw [one_beq]; congr 1; simp [RatOk, h1, h2]
    · simp [h1, h2, RatOk]
  · simp [h1, RatOk]

theorem ValidRatio_eq (k : Nat) (x y : Int) (hk : 1000000 < k) : impl_ValidRatio.f k x y = some (decide (RatOk x y)) := by
  unfold impl_ValidRatio.f
  rw [within_eq, within_eq]
  simp only [Option.bind_some]
  by_cases h1 : 1 ≤ x ∧ x ≤ 1000000
  · by_cases h2 : 1 ≤ y ∧ y ≤ 1000000
    · rw [commonDivisor_eq k x y (by omega) (by omega) (by omega)]
      simp only [Option.bind_some, decide_eq_true h1, decide_eq_true h2, if_true]
      rw [one_beq]; congr 1; simp [RatOk, h1, h2]
    · simp [h1, h2, RatOk]
  · simp [h1, RatOk]

/-- A ratio's text. -/
def ratioText (a b : Int) : ByteArray := ((⟨(Go.Lib.itoa a).toArray⟩ : ByteArray) ++ (⟨#[47]⟩ : ByteArray)) ++ ⟨(Go.Lib.itoa b).toArray⟩
theorem slash_size : (⟨#[47]⟩ : ByteArray).size = 1 := rfl
theorem text_bounds (a b : Int) (ha : -9223372036854775808 ≤ a ∧ a ≤ 9223372036854775807) (hb : -9223372036854775808 ≤ b ∧ b ≤ 9223372036854775807) :
    (⟨(Go.Lib.itoa a).toArray⟩ : ByteArray).size + 1 ≤ 9223372036854775807 ∧ ((⟨(Go.Lib.itoa a).toArray⟩ : ByteArray) ++ (⟨#[47]⟩ : ByteArray)).size + (⟨(Go.Lib.itoa b).toArray⟩ : ByteArray).size ≤ 9223372036854775807 := by
  have h1 := itoa_size a ha
  have h2 := itoa_size b hb
  rw [ByteArray.size_append, slash_size]
  omega
theorem l02Text_eq (k : Nat) (a b : Int) (ha : -9223372036854775808 ≤ a ∧ a ≤ 9223372036854775807) (hb : -9223372036854775808 ≤ b ∧ b ≤ 9223372036854775807) (hk : 200 < k) : spec_l02Text.f k a b = some (ratioText a b) := by
  obtain ⟨h1, h2⟩ := text_bounds a b ha hb
  unfold spec_l02Text.f
  rw [l01Dec_eq a ha k hk, Option.bind_some, if_pos h1, l01Dec_eq b hb k hk, Option.bind_some, if_pos h2]; rfl
theorem RatioText_eq (k : Nat) (a b : Int) (hk : 1000000 < k) : impl_RatioText.f k a b = some (if RatOk a b then ratioText a b else ⟨#[]⟩) := by
  unfold impl_RatioText.f
  rw [ValidRatio_eq k a b hk, Option.bind_some]
  by_cases h : RatOk a b
  · have ha : -9223372036854775808 ≤ a ∧ a ≤ 9223372036854775807 := by have := h.1; omega
    have hb : -9223372036854775808 ≤ b ∧ b ≤ 9223372036854775807 := by have := h.2.1; omega
    obtain ⟨h1, h2⟩ := text_bounds a b ha hb
    rw [decide_eq_true h, if_pos rfl, Decimal_eq a ha, Option.bind_some, if_pos h1, Decimal_eq b hb, Option.bind_some, if_pos h2, if_pos h]; rfl
  · rw [decide_eq_false h, if_neg (by simp), if_neg h]

theorem FnExactRatioText : laws_FnExactRatioText.Pure := by
  intro a b _ _
  refine ⟨10000000000000, ?_⟩
  unfold laws_FnExactRatioText.f laws_toRatio.f spec_RatioText.f
  simp only [Option.bind_some]
  rw [l02Ok_eq _ a b (by omega), RatioText_eq _ a b (by omega), Option.bind_some]
  by_cases h : RatOk a b
  · have ha : -9223372036854775808 ≤ a ∧ a ≤ 9223372036854775807 := by have := h.1; omega
    have hb : -9223372036854775808 ≤ b ∧ b ≤ 9223372036854775807 := by have := h.2.1; omega
    rw [decide_eq_true h, if_pos rfl, l02Text_eq _ a b ha hb (by omega)]
    simp [h]
  · simp [h]

end Go.Proofs.YtfpjcjignplpkaaDoor.Pure
