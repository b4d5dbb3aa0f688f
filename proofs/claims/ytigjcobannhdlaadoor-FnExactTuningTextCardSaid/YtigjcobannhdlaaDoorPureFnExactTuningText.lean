/- Proved: the plain statement of the law FnExactTuningText: the program's function and the reference's give the same answer. Conditions: none beyond the statement's own. -/
import Derived.Test.YtigjcobannhdlaaDoorStmFnExactTuningText
namespace Go.Proofs.YtigjcobannhdlaaDoor.Pure
open Go.RowKit Go.Proofs.YtigjcobannhdlaaDoor.PFnExactTuningText Go.Proofs.YtigjcobannhdlaaDoorW.PrintWords Go.Proofs.YtigjcobannhdlaaDoorW.PrintLast
set_option linter.unusedVariables false
set_option linter.unusedSimpArgs false

theorem wr {n : Int} (h : -9223372036854775808 ≤ n ∧ n ≤ 9223372036854775807) : wrap64 n = n := by unfold wrap64; omega

/-- The digits of u, the last ahead, as numbers. -/
def le (u : Nat) : List Int := (Go.Lib.decDigits u).reverse.map fun b => (b.toNat : Int)
theorem le_small (u : Nat) (h : u < 10) : le u = [48 + (u : Int)] := by
  unfold le
  rw [Go.Lib.decDigits, dif_pos h]
  simp only [List.reverse_cons, List.reverse_nil, List.nil_append, List.map_cons, List.map_nil, UInt8.toNat_ofNat']
  rw [Nat.mod_eq_of_lt (by omega)]
  simp
theorem le_big (u : Nat) (h : ¬ u < 10) : le u = (48 + ((u % 10 : Nat) : Int)) :: le (u / 10) := by
  unfold le
  rw [Go.Lib.decDigits, dif_neg h]
  simp only [List.reverse_append, List.reverse_cons, List.reverse_nil, List.nil_append, List.singleton_append, List.map_cons, UInt8.toNat_ofNat']
  rw [Nat.mod_eq_of_lt (by omega)]
  simp
theorem tmod10 (m : Int) : Int.tmod m 10 = if m < 0 then -((m.natAbs % 10 : Nat) : Int) else ((m.natAbs % 10 : Nat) : Int) := by
  by_cases h : m < 0
  · rw [if_pos h]
    obtain ⟨a, rfl⟩ : ∃ a : Int, m = -a := ⟨-m, by omega⟩
    rw [Int.neg_tmod, Int.tmod_eq_emod_of_nonneg (by omega)]
    omega
  · rw [if_neg h, Int.tmod_eq_emod_of_nonneg (by omega)]
    omega
theorem tdiv10 (m : Int) : Int.tdiv m 10 = if m < 0 then -((m.natAbs / 10 : Nat) : Int) else ((m.natAbs / 10 : Nat) : Int) := by
  by_cases h : m < 0
  · rw [if_pos h]
    obtain ⟨a, rfl⟩ : ∃ a : Int, m = -a := ⟨-m, by omega⟩
    rw [Int.neg_tdiv, Int.tdiv_eq_ediv_of_nonneg (by omega)]
    omega
  · rw [if_neg h, Int.tdiv_eq_ediv_of_nonneg (by omega)]
    omega
theorem dec_step (n : Int) (k : Nat) (z : List Int) (m : Int) (h0 : m ≠ 0) (hb : -9223372036854775808 ≤ m ∧ m ≤ 9223372036854775807) (hz : z.length < 1000) :
    spec_l01Dec.l0 (k + 1) n z m = spec_l01Dec.l0 k n (z ++ [48 + ((m.natAbs % 10 : Nat) : Int)]) (Int.tdiv m 10) := by
  have hl : z.length < 140737488355328 := by omega
  have hd : wrap64 (Int.tdiv m 10) = Int.tdiv m 10 := by
    rw [tdiv10]; exact wr (by split <;> omega)
  simp only [spec_l01Dec.l0]
  rw [if_neg h0, hd]
  have hm := tmod10 m
  by_cases c : Int.tmod m 10 < 0
  · rw [if_pos c, if_pos hl]
    have h1 : m < 0 := by
      by_cases q : m < 0
      · exact q
      · rw [if_neg q] at hm; omega
    rw [if_pos h1] at hm
    rw [hm, wr (n := - -((m.natAbs % 10 : Nat) : Int)) (by omega), wr (n := 48 + - -((m.natAbs % 10 : Nat) : Int)) (by omega)]
    congr 3
    omega
  · rw [if_neg c, if_pos hl]
    have h1 : Int.tmod m 10 = ((m.natAbs % 10 : Nat) : Int) := by
      by_cases q : m < 0
      · rw [if_pos q] at hm; omega
      · rw [if_neg q] at hm; exact hm
    rw [h1, wr (n := 48 + ((m.natAbs % 10 : Nat) : Int)) (by omega)]
    congr 3
    omega
theorem dec_l0 (n : Int) (u : Nat) : ∀ (k : Nat) (m : Int) (z : List Int), 1 ≤ u → m.natAbs = u → -9223372036854775808 ≤ m ∧ m ≤ 9223372036854775807 → z.length + Go.Lib.nDigits u < 1000 →
    spec_l01Dec.l0 (k + Go.Lib.nDigits u) n z m = spec_l01Dec.l0 k n (z ++ le u) 0 := by
  induction u using Nat.strongRecOn with
  | _ u ih =>
    intro k m z h1 hm hb hz
    by_cases h : u < 10
    · rw [Go.Lib.nDigits_small h, dec_step n k z m (by omega) hb (by rw [Go.Lib.nDigits_small h] at hz; omega), le_small u h, hm, Nat.mod_eq_of_lt h, tdiv10, hm, Nat.div_eq_of_lt h]
      congr 1
      split <;> simp
    · rw [Go.Lib.nDigits_big h] at hz ⊢
      rw [← Nat.add_assoc, dec_step n _ z m (by omega) hb (by omega), hm, ih (u / 10) (by omega) k (Int.tdiv m 10) _ (by omega) (by rw [tdiv10, hm]; split <;> omega) (by rw [tdiv10]; split <;> omega) (by simp; omega), le_big u h, List.append_assoc]
      rfl
theorem rev_l1 (x : List Int) (hx : x.length ≤ 1000) (i : Nat) : ∀ (k : Nat) (z : List Int), i ≤ x.length → z.length + i ≤ 1000 → i < k →
    spec_l01Dec.l1 k x z ((i : Int) - 1) = some (strOfNums (z ++ (x.take i).reverse)) := by
  induction i with
  | zero =>
    intro k z h1 h2 hk
    obtain ⟨k, rfl⟩ : ∃ m, k = m + 1 := ⟨k - 1, by omega⟩
    simp only [spec_l01Dec.l1]
    rw [if_neg (by omega)]; simp
  | succ i ih =>
    intro k z h1 h2 hk
    obtain ⟨k, rfl⟩ : ∃ m, k = m + 1 := ⟨k - 1, by omega⟩
    have e : ((i + 1 : Nat) : Int) - 1 = (i : Int) := by omega
    have e1 : (i : Int) ≥ 0 := by omega
    have e2 : (i : Int) < (x.length : Int) := by omega
    have e3 : z.length < 140737488355328 := by omega
    have e4 : wrap64 ((i : Int) - 1) = (i : Int) - 1 := wr (by omega)
    have e5 : 0 ≤ (i : Int) := by omega
    have er : rd x i = x[i] := by unfold rd; rw [Int.toNat_natCast, List.getD_eq_getElem?_getD, List.getElem?_eq_getElem (by omega)]; rfl
    simp only [spec_l01Dec.l1, e]
    rw [if_pos e1, if_pos e5, if_pos e2, if_pos e3, e4, er, ih k (z ++ [x[i]]) (by omega) (by simp; omega) (by omega), List.take_succ_eq_append_getElem (by omega), List.reverse_append, List.reverse_singleton, List.append_assoc]
theorem strOf (l : List UInt8) : strOfNums (l.map fun b => (b.toNat : Int)) = ⟨l.toArray⟩ := by
  unfold strOfNums
  simp [List.map_map, Function.comp_def]
theorem nDigits_le (u : Nat) (h : u < 10 ^ 30) : Go.Lib.nDigits u ≤ 30 := by
  rcases Nat.lt_or_ge 30 (Go.Lib.nDigits u) with h1 | h1
  · exfalso
    have : ∀ (j u : Nat), j < Go.Lib.nDigits u → 10 ^ j ≤ u ∨ j = 0 := by
      intro j
      induction j with
      | zero => intro u _; exact .inr rfl
      | succ j ih =>
        intro u hu
        by_cases hs : u < 10
        · rw [Go.Lib.nDigits_small hs] at hu; omega
        · rw [Go.Lib.nDigits_big hs] at hu
          left
          rcases ih (u / 10) (by omega) with q | q
          · rw [Nat.pow_succ]; omega
          · subst q; simp; omega
    rcases this 30 u h1 with q | q <;> omega
  · exact h1
theorem l01Dec_eq (n : Int) (hb : -9223372036854775808 ≤ n ∧ n ≤ 9223372036854775807) (k : Nat) (hk : 200 < k) : spec_l01Dec.f k n = some ⟨(Go.Lib.itoa n).toArray⟩ := by
  unfold spec_l01Dec.f
  by_cases h0 : n = 0
  · subst h0
    rw [if_pos rfl]
    unfold Go.Lib.itoa
    rw [if_neg (by omega), show (0 : Int).toNat = 0 from rfl, Go.Lib.decDigits, dif_pos (by omega)]
    rfl
  · rw [if_neg h0]
    have hd := nDigits_le n.natAbs (by omega)
    obtain ⟨j, rfl⟩ : ∃ j, k = j + 2 + Go.Lib.nDigits n.natAbs := ⟨k - 2 - Go.Lib.nDigits n.natAbs, by omega⟩
    rw [dec_l0 n n.natAbs (j + 2) n [] (by omega) rfl hb (by simp; omega), List.nil_append]
    have hle : (le n.natAbs).length ≤ 30 := by
      unfold le
      rw [List.length_map, List.length_reverse, Go.Lib.decDigits_eq, List.length_map, List.length_range]; exact hd
    have hrev : (le n.natAbs).reverse = (Go.Lib.decDigits n.natAbs).map fun b => (b.toNat : Int) := by
      unfold le; rw [← List.map_reverse, List.reverse_reverse]
    simp only [spec_l01Dec.l0, if_true]
    unfold Go.Lib.itoa
    by_cases hn : n < 0
    · have hl : (le n.natAbs).length < 140737488355328 := by omega
      rw [if_pos hn, if_pos hl, if_pos hn]
      simp only [spec_l01Dec.j1]
      have ew : wrap64 (((le n.natAbs ++ [(45 : Int)]).length : Int) - 1) = ((le n.natAbs ++ [(45 : Int)]).length : Int) - 1 := wr (by simp; omega)
      rw [ew, rev_l1 _ (by simp; omega) (le n.natAbs ++ [(45 : Int)]).length j [] (Nat.le_refl _) (by simp; omega) (by simp; omega), List.take_length, List.nil_append, List.reverse_append, hrev]
      congr 1
      exact strOf (45 :: Go.Lib.decDigits n.natAbs)
    · rw [if_neg hn, if_neg hn]
      simp only [spec_l01Dec.j1]
      rw [wr (n := ((le n.natAbs).length : Int) - 1) (by omega), rev_l1 _ (by omega) (le n.natAbs).length j [] (Nat.le_refl _) (by simp; omega) (by omega), List.take_length, List.nil_append, hrev, show n.toNat = n.natAbs by omega]
      congr 1
      exact strOf _
theorem itoa_size (n : Int) (hb : -9223372036854775808 ≤ n ∧ n ≤ 9223372036854775807) : (⟨(Go.Lib.itoa n).toArray⟩ : ByteArray).size ≤ 32 := by
  have hd := nDigits_le n.natAbs (by omega)
  show ((Go.Lib.itoa n).toArray).size ≤ 32
  unfold Go.Lib.itoa
  split
  · rw [List.size_toArray, List.length_cons, Go.Lib.decDigits_length]; omega
  · rw [List.size_toArray, Go.Lib.decDigits_length, show n.toNat = n.natAbs by omega]; omega
theorem Decimal_eq (n : Int) (hb : -9223372036854775808 ≤ n ∧ n ≤ 9223372036854775807) : impl_Decimal.f n = some ⟨(Go.Lib.itoa n).toArray⟩ := by
  unfold impl_Decimal.f strconv_FormatInt.f
  rw [if_pos ⟨rfl, hb⟩]; rfl

theorem l00In_eq (a b c : Int) : spec_l00In.f a b c = some (decide (b ≤ a ∧ a ≤ c)) := by
  unfold spec_l00In.f
  by_cases h : a ≥ b <;> simp [h]

theorem within_eq (a b c : Int) : impl_within.f a b c = some (decide (b ≤ a ∧ a ≤ c)) := by
  unfold impl_within.f
  by_cases h : a ≥ b <;> simp [h]

theorem gcd_step (a b : Nat) : Nat.gcd b (a % b) = Nat.gcd a b := by
  rw [Nat.gcd_comm a b, Nat.gcd_rec b a, Nat.gcd_comm]
theorem l02Gcd_l0 (d : Nat) : ∀ (k a b : Nat), b ≤ d → d < k → spec_l02Gcd.l0 k (a : Int) (b : Int) = some (Nat.gcd a b : Int) := by
  induction d with
  | zero =>
    intro k a b hb hk
    obtain ⟨k, rfl⟩ : ∃ m, k = m + 1 := ⟨k - 1, by omega⟩
    obtain rfl : b = 0 := by omega
    simp [spec_l02Gcd.l0]
  | succ d ih =>
    intro k a b hb hk
    obtain ⟨k, rfl⟩ : ∃ m, k = m + 1 := ⟨k - 1, by omega⟩
    simp only [spec_l02Gcd.l0]
    by_cases h : (b : Int) = 0
    · rw [if_pos h]; obtain rfl : b = 0 := by omega
      simp
    · rw [if_neg h]
      have e : Int.tmod (a : Int) b = ((a % b : Nat) : Int) := rfl
      have hlt := Nat.mod_lt a (show b > 0 by omega)
      rw [e, ih k b (a % b) (by omega) (by omega), gcd_step]
theorem commonDivisor_l0 (d : Nat) : ∀ (k a b : Nat), b ≤ d → d < k → impl_commonDivisor.l0 k (a : Int) (b : Int) = some (Nat.gcd a b : Int) := by
  induction d with
  | zero =>
    intro k a b hb hk
    obtain ⟨k, rfl⟩ : ∃ m, k = m + 1 := ⟨k - 1, by omega⟩
    obtain rfl : b = 0 := by omega
    simp [impl_commonDivisor.l0]
  | succ d ih =>
    intro k a b hb hk
    obtain ⟨k, rfl⟩ : ∃ m, k = m + 1 := ⟨k - 1, by omega⟩
    simp only [impl_commonDivisor.l0]
    by_cases h : (b : Int) = 0
    · rw [if_pos h]; obtain rfl : b = 0 := by omega
      simp
    · rw [if_neg h]
      have e : Int.tmod (a : Int) b = ((a % b : Nat) : Int) := rfl
      have hlt := Nat.mod_lt a (show b > 0 by omega)
      rw [e, ih k b (a % b) (by omega) (by omega), gcd_step]
theorem l02Gcd_eq (k : Nat) (a b : Int) (ha : 0 ≤ a) (hb : 0 ≤ b) (hk : b.toNat < k) : spec_l02Gcd.f k a b = some (Nat.gcd a.toNat b.toNat : Int) := by
  unfold spec_l02Gcd.f
  have := l02Gcd_l0 b.toNat k a.toNat b.toNat (Nat.le_refl _) hk
  rwa [show ((a.toNat : Nat) : Int) = a by omega, show ((b.toNat : Nat) : Int) = b by omega] at this
theorem commonDivisor_eq (k : Nat) (a b : Int) (ha : 0 ≤ a) (hb : 0 ≤ b) (hk : b.toNat < k) : impl_commonDivisor.f k a b = some (Nat.gcd a.toNat b.toNat : Int) := by
  unfold impl_commonDivisor.f
  have := commonDivisor_l0 b.toNat k a.toNat b.toNat (Nat.le_refl _) hk
  rwa [show ((a.toNat : Nat) : Int) = a by omega, show ((b.toNat : Nat) : Int) = b by omega] at this
/-- Two numbers that are a valid ratio. -/
def RatOk (x y : Int) : Prop := (1 ≤ x ∧ x ≤ 1000000) ∧ (1 ≤ y ∧ y ≤ 1000000) ∧ Nat.gcd x.toNat y.toNat = 1
instance ratOkDec (x y : Int) : Decidable (RatOk x y) := by unfold RatOk; infer_instance
theorem one_beq (n : Nat) : (((n : Int) == 1) : Bool) = decide (n = 1) := by
  rw [Bool.eq_iff_iff, beq_iff_eq, decide_eq_true_iff]; omega

theorem l02Ok_eq (k : Nat) (x y : Int) (hk : 1000000 < k) : spec_l02Ok.f k x y = some (decide (RatOk x y)) := by
  unfold spec_l02Ok.f spec_l02Part.f
  rw [l00In_eq, l00In_eq]
  simp only [Option.bind_some]
  by_cases h1 : 1 ≤ x ∧ x ≤ 1000000
  · by_cases h2 : 1 ≤ y ∧ y ≤ 1000000
    · rw [l02Gcd_eq k x y (by omega) (by omega) (by omega)]
      simp only [Option.bind_some, decide_eq_true h1, decide_eq_true h2, if_true]
      rw [one_beq]; congr 1; simp [RatOk, h1, h2]
    · simp [h1, h2, RatOk]
  · simp [h1, RatOk]

theorem ValidRatio_eq (k : Nat) (x y : Int) (hk : 1000000 < k) : impl_ValidRatio.f k x y = some (decide (RatOk x y)) := by
  unfold impl_ValidRatio.f
  rw [within_eq, within_eq]
  simp only [Option.bind_some]
  by_cases h1 : 1 ≤ x ∧ x ≤ 1000000
  · by_cases h2 : 1 ≤ y ∧ y ≤ 1000000
    · rw [commonDivisor_eq k x y (by omega) (by omega) (by omega)]
      simp only [Option.bind_some, decide_eq_true h1, decide_eq_true h2, if_true]
      rw [one_beq]; congr 1; simp [RatOk, h1, h2]
    · simp [h1, h2, RatOk]
  · simp [h1, RatOk]


/-- A ratio's text. -/
def ratioText (a b : Int) : ByteArray := ((⟨(Go.Lib.itoa a).toArray⟩ : ByteArray) ++ (⟨#[47]⟩ : ByteArray)) ++ ⟨(Go.Lib.itoa b).toArray⟩
theorem slash_size : (⟨#[47]⟩ : ByteArray).size = 1 := rfl
theorem text_bounds (a b : Int) (ha : -9223372036854775808 ≤ a ∧ a ≤ 9223372036854775807) (hb : -9223372036854775808 ≤ b ∧ b ≤ 9223372036854775807) :
    (⟨(Go.Lib.itoa a).toArray⟩ : ByteArray).size + 1 ≤ 9223372036854775807 ∧ ((⟨(Go.Lib.itoa a).toArray⟩ : ByteArray) ++ (⟨#[47]⟩ : ByteArray)).size + (⟨(Go.Lib.itoa b).toArray⟩ : ByteArray).size ≤ 9223372036854775807 := by
  have h1 := itoa_size a ha
  have h2 := itoa_size b hb
  rw [ByteArray.size_append, slash_size]
  omega
theorem l02Text_eq (k : Nat) (a b : Int) (ha : -9223372036854775808 ≤ a ∧ a ≤ 9223372036854775807) (hb : -9223372036854775808 ≤ b ∧ b ≤ 9223372036854775807) (hk : 200 < k) : spec_l02Text.f k a b = some (ratioText a b) := by
  obtain ⟨h1, h2⟩ := text_bounds a b ha hb
  unfold spec_l02Text.f
  rw [l01Dec_eq a ha k hk, Option.bind_some, if_pos h1, l01Dec_eq b hb k hk, Option.bind_some, if_pos h2]; rfl
theorem RatioText_eq (k : Nat) (a b : Int) (hk : 1000000 < k) : impl_RatioText.f k a b = some (if RatOk a b then ratioText a b else ⟨#[]⟩) := by
  unfold impl_RatioText.f
  rw [ValidRatio_eq k a b hk, Option.bind_some]
  by_cases h : RatOk a b
  · have ha : -9223372036854775808 ≤ a ∧ a ≤ 9223372036854775807 := by have := h.1; omega
    have hb : -9223372036854775808 ≤ b ∧ b ≤ 9223372036854775807 := by have := h.2.1; omega
    obtain ⟨h1, h2⟩ := text_bounds a b ha hb
    rw [decide_eq_true h, if_pos rfl, Decimal_eq a ha, Option.bind_some, if_pos h1, Decimal_eq b hb, Option.bind_some, if_pos h2, if_pos h]; rfl
  · rw [decide_eq_false h, if_neg (by simp), if_neg h]

def toT (x : S68) : S59 := ⟨x.f0, x.f1⟩
theorem rdT_lt (l : List S59) (j : Nat) (h : j < l.length) : rd_T59 l j = l[j] := by
  unfold rd_T59; rw [Int.toNat_natCast, List.getD_eq_getElem?_getD, List.getElem?_eq_getElem h]; rfl
theorem rdL_lt (l : List S68) (j : Nat) (h : j < l.length) : rd_T68 l j = l[j] := by
  unfold rd_T68; rw [Int.toNat_natCast, List.getD_eq_getElem?_getD, List.getElem?_eq_getElem h]; rfl
theorem toRatioS_l0 (l : List S68) (hl : l.length ≤ 1048576) (d : Nat) : ∀ (k i : Nat) (m : List S59), l.length = i + d → d < k →
    m = (l.take i).map toT ++ List.replicate (l.length - i) z59 → laws_toRatioS.l0 k l m i = some (l.map toT) := by
  induction d with
  | zero =>
    intro k i m hd hk hm
    obtain ⟨k, rfl⟩ : ∃ m, k = m + 1 := ⟨k - 1, by omega⟩
    simp only [laws_toRatioS.l0]; rw [if_neg (by omega), hm, show l.length - i = 0 by omega, List.take_of_length_le (by omega)]; simp
  | succ d ih =>
    intro k i m hd hk hm
    obtain ⟨k, rfl⟩ : ∃ m, k = m + 1 := ⟨k - 1, by omega⟩
    have hml : m.length = l.length := by subst hm; simp; omega
    simp only [laws_toRatioS.l0, laws_toRatio.f]
    rw [if_pos (by omega), if_pos (by omega)]
    simp only [Option.bind_some]
    rw [if_pos (by omega), wr (n := (i : Int) + 1) (by omega), show ((i : Int) + 1) = ((i + 1 : Nat) : Int) by omega]
    apply ih k (i + 1) _ (by omega) (by omega)
    have h1 : ((l.take i).map toT).length = i := by simp; omega
    rw [Int.toNat_natCast, hm, rdL_lt l i (by omega), List.take_succ_eq_append_getElem (by omega), show l.length - i = (l.length - (i + 1)) + 1 by omega, List.replicate_succ, List.set_append_right _ _ (by omega), h1, Nat.sub_self, List.set_cons_zero, List.map_append, List.append_assoc]
    rfl
theorem toRatioS_eq (k : Nat) (l : List S68) (hl : l.length ≤ 1048576) (hk : l.length < k) : laws_toRatioS.f k l = some (l.map toT) := by
  unfold laws_toRatioS.f
  rw [if_pos (by omega), if_pos (by omega)]
  exact toRatioS_l0 l hl l.length k 0 _ (by omega) hk (by simp)
theorem toTuning_eq (k : Nat) (a : ByteArray) (l : List S68) (hl : l.length ≤ 1048576) (hk : l.length < k) : laws_toTuning.f k a l = some (a, l.map toT) := by
  unfold laws_toTuning.f; rw [toRatioS_eq k l hl hk]; rfl
theorem eqRatioS_l0 (l : List S59) (hl : l.length ≤ 1048576) (d : Nat) : ∀ (k i : Nat), l.length = i + d → d < k → laws_eqRatioS.l0 k l l i = some true := by
  induction d with
  | zero =>
    intro k i hd hk
    obtain ⟨k, rfl⟩ : ∃ m, k = m + 1 := ⟨k - 1, by omega⟩
    simp only [laws_eqRatioS.l0]; rw [if_neg (by omega)]
  | succ d ih =>
    intro k i hd hk
    obtain ⟨k, rfl⟩ : ∃ m, k = m + 1 := ⟨k - 1, by omega⟩
    simp only [laws_eqRatioS.l0, laws_eqRatio.f]
    rw [if_pos (by omega), if_pos (by omega), if_pos (by omega)]
    simp only [if_true, Option.bind_some]
    rw [wr (n := (i : Int) + 1) (by omega), show ((i : Int) + 1) = ((i + 1 : Nat) : Int) by omega]
    exact ih k (i + 1) (by omega) (by omega)
theorem eqRatioS_self (k : Nat) (l : List S59) (hl : l.length ≤ 1048576) (hk : l.length < k) : laws_eqRatioS.f k l l = some true := by
  unfold laws_eqRatioS.f; rw [if_pos rfl]; exact eqRatioS_l0 l hl l.length k 0 (by omega) hk
theorem eqTuning_self (k : Nat) (a : ByteArray) (l : List S59) (hl : l.length ≤ 1048576) (hk : l.length < k) : laws_eqTuning.f k a l a l = some true := by
  unfold laws_eqTuning.f; rw [if_pos rfl, eqRatioS_self k l hl hk]; rfl
theorem szTuning_eq (a : ByteArray) (l : List S68) (left : Int) (ha : a.size ≤ maxLen) (hl : l.length ≤ maxLen) (h : 0 ≤ left ∧ left ≤ 1048576) :
    ∃ r, laws_szTuning.f a l left = some r ∧ (r < 0 ∨ (0 ≤ r ∧ (a.size : Int) + l.length + r = left)) := by
  unfold maxLen at ha hl
  unfold laws_szTuning.f laws_szRatioS.f
  rw [wr (n := left - (a.size : Int)) (by omega)]
  by_cases c1 : left - (a.size : Int) < 0
  · exact ⟨-1, by rw [if_pos c1], .inl (by omega)⟩
  · rw [if_neg c1, wr (n := left - (a.size : Int) - (l.length : Int)) (by omega)]
    by_cases c2 : left - (a.size : Int) - (l.length : Int) < 0
    · exact ⟨-1, by rw [if_pos c2]; rfl, .inl (by omega)⟩
    · exact ⟨left - (a.size : Int) - (l.length : Int), by rw [if_neg c2]; simp only [Option.bind_some]; rw [if_neg c2], .inr (by omega)⟩

theorem bt_range (s : ByteArray) (i : Int) : 0 ≤ bt s i ∧ bt s i < 256 := by
  unfold bt
  split
  · constructor
    · omega
    · have := (s[i.toNat]'(by assumption)).toNat_lt; omega
  · omega

theorem bytes_nil (s : ByteArray) : s.toList = ([] : List UInt8) ↔ s.size = 0 := by
  rw [Go.ByteArray.toList_eq]
  have : s.data.toList.length = s.size := by cases s; rfl
  constructor
  · intro h; rw [h] at this; simpa using this.symm
  · intro h; exact List.length_eq_zero_iff.1 (by omega)

/-- A byte that a name may bear. -/
def nameB (c : Int) : Prop := (97 ≤ c ∧ c ≤ 122) ∨ (48 ≤ c ∧ c ≤ 57)
/-- A text that is a name. -/
def nameOk (s : ByteArray) : Prop := 1 ≤ s.size ∧ s.size ≤ 10 ∧ (97 ≤ bt s 0 ∧ bt s 0 ≤ 122) ∧ ∀ j : Nat, j < s.size → nameB (bt s j)

instance nameBDec (c : Int) : Decidable (nameB c) := by unfold nameB; infer_instance
instance nameOkDec (s : ByteArray) : Decidable (nameOk s) := by unfold nameOk; infer_instance
theorem small_eq (c : Int) : spec_l01Small.f c = some (decide (97 ≤ c ∧ c ≤ 122)) := by
  unfold spec_l01Small.f
  by_cases h : c ≥ 97 <;> simp [h]
theorem digit_eq (c : Int) : spec_l01Digit.f c = some (decide (48 ≤ c ∧ c ≤ 57)) := by
  unfold spec_l01Digit.f
  by_cases h : c ≥ 48 <;> simp [h]

theorem name_l0 (s : ByteArray) (hs : s.size ≤ 10) (d : Nat) : ∀ (k i : Nat), s.size = i + d → d < k →
    ∃ b, spec_l01Name.l0 k s i = some b ∧ (b = true ↔ ∀ j : Nat, i ≤ j → j < s.size → nameB (bt s j)) := by
  induction d with
  | zero =>
    intro k i hd hk
    obtain ⟨k, rfl⟩ : ∃ m, k = m + 1 := ⟨k - 1, by omega⟩
    exact ⟨true, by simp only [spec_l01Name.l0]; rw [if_neg (by omega)], by simp; intro j h1 h2; omega⟩
  | succ d ih =>
    intro k i hd hk
    obtain ⟨k, rfl⟩ : ∃ m, k = m + 1 := ⟨k - 1, by omega⟩
    simp only [spec_l01Name.l0]
    rw [if_pos (by omega), if_pos (by omega), small_eq, digit_eq, Option.bind_some, Option.bind_some, wr (n := (i : Int) + 1) (by omega)]
    obtain ⟨b, hb, hiff⟩ := ih k (i + 1) (by omega) (by omega)
    have hb' : spec_l01Name.l0 k s ((i : Int) + 1) = some b := by simpa using hb
    rw [hb']
    by_cases hc : nameB (bt s i)
    · refine ⟨b, ?_, ?_⟩
      · unfold nameB at hc
        rcases hc with hc | hc
        · simp [hc]
        · simp [hc]
      · rw [hiff]
        constructor
        · intro h j h1 h2
          by_cases e : j = i
          · subst e; exact hc
          · exact h j (by omega) h2
        · intro h j h1 h2; exact h j (by omega) h2
    · refine ⟨false, ?_, ?_⟩
      · unfold nameB at hc
        have c1 : ¬ (97 ≤ bt s i ∧ bt s i ≤ 122) := fun h => hc (Or.inl h)
        have c2 : ¬ (48 ≤ bt s i ∧ bt s i ≤ 57) := fun h => hc (Or.inr h)
        simp [c1, c2]
      · simp; exact ⟨i, by omega, by omega, hc⟩

theorem onlyName_l0 (s : ByteArray) (hs : s.size ≤ 10) (d : Nat) : ∀ (k i : Nat), s.size = i + d → d < k →
    ∃ b, impl_onlyNameBytes.l0 k s s.size i = some b ∧ (b = true ↔ ∀ j : Nat, i ≤ j → j < s.size → nameB (bt s j)) := by
  induction d with
  | zero =>
    intro k i hd hk
    obtain ⟨k, rfl⟩ : ∃ m, k = m + 1 := ⟨k - 1, by omega⟩
    exact ⟨true, by simp only [impl_onlyNameBytes.l0]; rw [if_neg (by omega)], by simp; intro j h1 h2; omega⟩
  | succ d ih =>
    intro k i hd hk
    obtain ⟨k, rfl⟩ : ∃ m, k = m + 1 := ⟨k - 1, by omega⟩
    simp only [impl_onlyNameBytes.l0]
    rw [if_pos (by omega), if_pos (by omega), if_pos (by omega), wr (n := (i : Int) + 1) (by omega)]
    obtain ⟨b, hb, hiff⟩ := ih k (i + 1) (by omega) (by omega)
    have hb' : impl_onlyNameBytes.l0 k s s.size ((i : Int) + 1) = some b := by simpa using hb
    rw [hb']
    by_cases hc : nameB (bt s i)
    · refine ⟨b, ?_, ?_⟩
      · unfold nameB at hc
        rcases hc with hc | hc
        · rw [if_neg (by omega), if_neg (by omega)]
        · rw [if_pos (by omega), if_neg (by omega), if_neg (by omega)]
      · rw [hiff]
        constructor
        · intro h j h1 h2
          by_cases e : j = i
          · subst e; exact hc
          · exact h j (by omega) h2
        · intro h j h1 h2; exact h j (by omega) h2
    · refine ⟨false, ?_, ?_⟩
      · unfold nameB at hc
        have c1 : ¬ (97 ≤ bt s i ∧ bt s i ≤ 122) := fun h => hc (Or.inl h)
        have c2 : ¬ (48 ≤ bt s i ∧ bt s i ≤ 57) := fun h => hc (Or.inr h)
        by_cases c3 : bt s i < 97
        · rw [if_pos c3]
          by_cases c4 : bt s i < 48
          · rw [if_pos c4]
          · rw [if_neg c4, if_pos (by omega)]
        · rw [if_neg c3, if_pos (by omega), if_neg (by omega), if_pos (by omega)]
      · simp; exact ⟨i, by omega, by omega, hc⟩

theorem l01Name_eq (k : Nat) (s : ByteArray) (hk : 20 < k) : spec_l01Name.f k s = some (decide (nameOk s)) := by
  have hj : ∀ (b : Bool), s.size ≤ 10 → ∃ r, spec_l01Name.j0 k s b = some r ∧ (r = true ↔ (b = false ∧ ∀ j : Nat, j < s.size → nameB (bt s j))) := by
    intro b hs
    obtain ⟨k, rfl⟩ : ∃ m, k = m + 1 := ⟨k - 1, by omega⟩
    obtain ⟨r, hr, hiff⟩ := name_l0 s hs s.size k 0 (by omega) (by omega)
    simp only [spec_l01Name.j0]
    cases b
    · exact ⟨r, by simpa using hr, by rw [hiff]; simp⟩
    · exact ⟨false, by simp, by simp⟩
  unfold spec_l01Name.f
  by_cases h0 : s.size = 0
  · rw [if_pos ((bytes_nil s).2 h0)]
    obtain ⟨r, hr, hiff⟩ := hj true (by omega)
    rw [hr]; congr 1; rw [Bool.eq_iff_iff, hiff]; simp [nameOk, h0]
  · rw [if_neg (fun h => h0 ((bytes_nil s).1 h))]
    by_cases h1 : (s.size : Int) > 10
    · rw [if_pos h1]
      obtain ⟨k, rfl⟩ : ∃ m, k = m + 1 := ⟨k - 1, by omega⟩
      simp only [spec_l01Name.j0]
      simp only [if_true]; congr 1; symm; rw [decide_eq_false_iff_not]; unfold nameOk; omega
    · rw [if_neg h1, if_pos (by omega), small_eq, Option.bind_some]
      obtain ⟨r, hr, hiff⟩ := hj (!decide (97 ≤ bt s 0 ∧ bt s 0 ≤ 122)) (by omega)
      rw [hr]; congr 1; rw [Bool.eq_iff_iff, hiff, decide_eq_true_iff]; unfold nameOk
      constructor
      · rintro ⟨a, b⟩; exact ⟨by omega, by omega, by simpa using a, b⟩
      · rintro ⟨a, b, c, d⟩; exact ⟨by simpa using c, d⟩

theorem IsName_eq (k : Nat) (s : ByteArray) (hk : 20 < k) : impl_IsName.f k s = some (decide (nameOk s)) := by
  unfold impl_IsName.f
  by_cases h0 : (s.size : Int) < 1
  · rw [if_pos h0]; congr 1; symm; rw [decide_eq_false_iff_not]; unfold nameOk; omega
  · rw [if_neg h0]
    by_cases h1 : (s.size : Int) > 10
    · rw [if_pos h1]; congr 1; symm; rw [decide_eq_false_iff_not]; unfold nameOk; omega
    · rw [if_neg h1, if_pos (by omega)]
      by_cases h2 : bt s 0 < 97
      · rw [if_pos h2]; congr 1; symm; rw [decide_eq_false_iff_not]; unfold nameOk; omega
      · rw [if_neg h2]
        by_cases h3 : bt s 0 > 122
        · rw [if_pos h3]; congr 1; symm; rw [decide_eq_false_iff_not]; unfold nameOk; omega
        · rw [if_neg h3]
          unfold impl_onlyNameBytes.f
          obtain ⟨r, hr, hiff⟩ := onlyName_l0 s (by omega) s.size k 0 (by omega) (by omega)
          have hr' : impl_onlyNameBytes.l0 k s s.size 0 = some r := by simpa using hr
          rw [hr', Option.bind_some]; congr 1; rw [Bool.eq_iff_iff, hiff, decide_eq_true_iff]; unfold nameOk
          constructor
          · intro a; exact ⟨by omega, by omega, by omega, fun j h => a j (by omega) h⟩
          · rintro ⟨a, b, c, d⟩ j _ h; exact d j h

theorem cmpT_eq (a b : Int) : cmp_Compare_int64.f a b = some (if a < b then -1 else if a > b then 1 else 0) := by
  unfold cmp_Compare_int64.f cmp_isNaN_int64.f
  simp only [Option.bind_some, bne_self_eq_false, Bool.false_eq_true, if_false]
  split
  · rfl
  · split <;> rfl
theorem sgn_eq (a b c d : Int) : ∃ u v, spec_l02Compare.f a b c d = some v ∧ impl_Ratio_compare.f c d a b = some u ∧ (v ≥ 0 ↔ u ≤ 0) := by
  unfold spec_l02Compare.f impl_Ratio_compare.f
  rw [cmpT_eq]
  generalize wrap64 (a * d) = x
  generalize wrap64 (c * b) = y
  simp only [Option.bind_some]
  by_cases h1 : x < y
  · refine ⟨_, _, by rw [if_pos h1], rfl, ?_⟩
    have h2 : ¬ y < x := by omega
    rw [if_neg h2, if_pos h1]; decide
  · by_cases h2 : x > y
    · refine ⟨_, _, by rw [if_neg h1, if_pos h2], rfl, ?_⟩
      have h3 : y < x := h2
      rw [if_pos h3]; decide
    · refine ⟨_, _, by rw [if_neg h1, if_neg h2], rfl, ?_⟩
      have h3 : ¬ y < x := h2
      have h4 : ¬ y > x := by omega
      rw [if_neg h3, if_neg h4]
def ElOk (p : S59) : Prop := RatOk p.f0 p.f1 ∧ p.f0 < 2 * p.f1
theorem tun_l0 (a : ByteArray) (l : List S59) (hl : l.length = 12) (o : Bool) (ho : ((if (rd_T59 l 0).f0 = 1 then some ((rd_T59 l 0).f1 == 1) else some false) : Option Bool) = some o) (d : Nat) : ∀ (i : Nat), l.length = i + d →
    ∃ r : Bool, (∀ k, 1000001 + d < k → spec_l04Ok.l0 k l i = some (r && o) ∧ impl_ValidTuning.l0 k l l.length i a l = some r) ∧ (r = true → ∀ j : Nat, i ≤ j → j < l.length → ElOk (rd_T59 l j)) := by
  induction d with
  | zero =>
    intro i hd
    refine ⟨true, fun k hk => ?_, fun _ j h1 h2 => by omega⟩
    obtain ⟨k, rfl⟩ : ∃ m, k = m + 1 := ⟨k - 1, by omega⟩
    have e : ¬ (i : Int) < (l.length : Int) := by omega
    have e1 : 0 < (l.length : Int) := by omega
    simp only [spec_l04Ok.l0, impl_ValidTuning.l0]
    rw [if_neg e, if_neg e, if_pos e1, ho]; exact ⟨by rw [Bool.true_and], rfl⟩
  | succ d ih =>
    intro i hd
    have e : (i : Int) < (l.length : Int) := by omega
    have e0 : 0 ≤ (i : Int) := by omega
    have ew : wrap64 ((i : Int) + 1) = ((i + 1 : Nat) : Int) := by rw [wr (n := (i : Int) + 1) (by omega)]; omega
    generalize hp : rd_T59 l (i : Int) = p
    have fin : ∀ (hbad : ∀ k, 1000001 < k → spec_l04Ok.l0 (k + 1) l i = some false ∧ impl_ValidTuning.l0 (k + 1) l l.length i a l = some false),
        ∃ r : Bool, (∀ k, 1000001 + (d + 1) < k → spec_l04Ok.l0 k l i = some (r && o) ∧ impl_ValidTuning.l0 k l l.length i a l = some r) ∧ (r = true → ∀ j : Nat, i ≤ j → j < l.length → ElOk (rd_T59 l j)) := fun hbad => by
      refine ⟨false, fun k hk => ?_, fun h => by simp at h⟩
      obtain ⟨k, rfl⟩ : ∃ m, k = m + 1 := ⟨k - 1, by omega⟩
      rw [Bool.false_and]; exact hbad k (by omega)
    by_cases c1 : RatOk p.f0 p.f1
    · have hm : wrap64 (2 * p.f1) = 2 * p.f1 := by have := c1.2.1; exact wr (by omega)
      by_cases c2 : p.f0 ≥ 2 * p.f1
      · apply fin
        intro k hk
        simp only [spec_l04Ok.l0, impl_ValidTuning.l0, hp, l02Ok_eq k p.f0 p.f1 (by omega), ValidRatio_eq k p.f0 p.f1 (by omega), Option.bind_some, decide_eq_true c1, if_true, hm]
        rw [if_pos e, if_pos e0, if_pos c2, if_pos e, if_pos e0, if_pos e, if_pos c2]; exact ⟨rfl, rfl⟩
      · obtain ⟨r, h1, h2⟩ := ih (i + 1) (by omega)
        have hel : ElOk p := ⟨c1, by omega⟩
        by_cases c3 : (i : Int) > 0
        · have wj : wrap64 ((i : Int) - 1) = (i : Int) - 1 := wr (by omega)
          have j0 : 0 ≤ (i : Int) - 1 := by omega
          have j1 : (i : Int) - 1 < (l.length : Int) := by omega
          generalize hq : rd_T59 l ((i : Int) - 1) = q
          obtain ⟨u, v, s1, s2, s3⟩ := sgn_eq q.f0 q.f1 p.f0 p.f1
          by_cases c4 : v ≥ 0
          · have c5 := s3.1 c4
            apply fin
            intro k hk
            simp only [spec_l04Ok.l0, impl_ValidTuning.l0, wj, hp, hq, s1, s2, l02Ok_eq k p.f0 p.f1 (by omega), ValidRatio_eq k p.f0 p.f1 (by omega), Option.bind_some, decide_eq_true c1, if_true, hm]
            rw [if_pos e, if_pos e0, if_neg c2, if_pos c3, if_pos j0, if_pos j1, if_pos c4, if_pos e, if_pos e0, if_pos e, if_neg c2, if_pos c3, if_pos j0, if_pos j1, if_pos c5]; exact ⟨rfl, rfl⟩
          · have c5 : ¬ u ≤ 0 := fun h => c4 (s3.2 h)
            refine ⟨r, fun k hk => ?_, fun ho j q1 q2 => ?_⟩
            · obtain ⟨k, rfl⟩ : ∃ m, k = m + 1 := ⟨k - 1, by omega⟩
              simp only [spec_l04Ok.l0, impl_ValidTuning.l0, wj, hp, hq, s1, s2, l02Ok_eq k p.f0 p.f1 (by omega), ValidRatio_eq k p.f0 p.f1 (by omega), Option.bind_some, decide_eq_true c1, if_true, hm, ew, (h1 k (by omega)).1, (h1 k (by omega)).2]
              rw [if_pos e, if_pos e0, if_neg c2, if_pos c3, if_pos j0, if_pos j1, if_neg c4, if_pos e, if_pos e0, if_pos e, if_neg c2, if_pos c3, if_pos j0, if_pos j1, if_neg c5]; exact ⟨rfl, rfl⟩
            · by_cases z : j = i
              · subst z; rw [hp]; exact hel
              · exact h2 ho j (by omega) q2
        · refine ⟨r, fun k hk => ?_, fun ho j q1 q2 => ?_⟩
          · obtain ⟨k, rfl⟩ : ∃ m, k = m + 1 := ⟨k - 1, by omega⟩
            simp only [spec_l04Ok.l0, impl_ValidTuning.l0, hp, l02Ok_eq k p.f0 p.f1 (by omega), ValidRatio_eq k p.f0 p.f1 (by omega), Option.bind_some, decide_eq_true c1, if_true, hm, ew, (h1 k (by omega)).1, (h1 k (by omega)).2]
            rw [if_pos e, if_pos e0, if_neg c2, if_neg c3, if_pos e, if_pos e0, if_pos e, if_neg c2, if_neg c3]; exact ⟨rfl, rfl⟩
          · by_cases z : j = i
            · subst z; rw [hp]; exact hel
            · exact h2 ho j (by omega) q2
    · apply fin
      intro k hk
      simp only [spec_l04Ok.l0, impl_ValidTuning.l0, hp, l02Ok_eq k p.f0 p.f1 (by omega), ValidRatio_eq k p.f0 p.f1 (by omega), Option.bind_some, decide_eq_false c1]
      rw [if_pos e, if_pos e0, if_pos e, if_pos e0, if_pos e]; exact ⟨rfl, rfl⟩
structure GoodT (l : List S59) : Prop where
  len : l.length = 12
  el : ∀ j : Nat, j < 12 → ElOk (rd_T59 l j)
theorem tuning_eq (a : ByteArray) (l : List S59) :
    ∃ r : Bool, (∀ k, 1000100 < k → spec_l04Ok.f k a l = some r ∧ impl_ValidTuning.f k a l = some r) ∧ (r = true → GoodT l) := by
  unfold spec_l04Ok.f impl_ValidTuning.f
  by_cases h1 : nameOk a
  · by_cases h2 : (l.length : Int) = 12
    · have h0 : 0 < (l.length : Int) := by omega
      generalize hp : rd_T59 l 0 = p
      obtain ⟨o, ho⟩ : ∃ o, ((if p.f0 = 1 then some (p.f1 == 1) else some false) : Option Bool) = some o := by split <;> exact ⟨_, rfl⟩
      obtain ⟨r, hr, hg⟩ := tun_l0 a l (by omega) o (by rw [hp]; exact ho) l.length 0 (by omega)
      have hb : (!(p.f0 == 1) || (!(p.f1 == 1))) = !o := by
        by_cases c : p.f0 = 1
        · rw [if_pos c] at ho; have := Option.some.inj ho; subst this; simp [c]
        · rw [if_neg c] at ho; have := Option.some.inj ho; subst this; simp [c]
      refine ⟨r && o, fun k hk => ?_, fun h => ⟨by omega, fun j hj => hg (by simp at h; exact h.1) j (by omega) (by omega)⟩⟩
      obtain ⟨k, rfl⟩ : ∃ m, k = m + 1 := ⟨k - 1, by omega⟩
      have e1 := (hr (k + 1) (by omega)).1
      have e2 := (hr k (by omega)).2
      simp only [Int.natCast_zero] at e1 e2
      rw [l01Name_eq _ a (by omega), IsName_eq _ a (by omega)]
      simp only [Option.bind_some, decide_eq_true h1, if_true, if_pos h2, if_pos h0, hb, impl_ValidTuning.j0, e1, e2]
      first | done | (cases o <;> simp)
    · refine ⟨false, fun k hk => ?_, fun h => by simp at h⟩
      obtain ⟨k, rfl⟩ : ∃ m, k = m + 1 := ⟨k - 1, by omega⟩
      rw [l01Name_eq _ a (by omega), IsName_eq _ a (by omega)]
      simp only [Option.bind_some, decide_eq_true h1, if_true, if_neg h2, impl_ValidTuning.j0]; exact ⟨trivial, trivial⟩
  · refine ⟨false, fun k hk => ?_, fun h => by simp at h⟩
    obtain ⟨k, rfl⟩ : ∃ m, k = m + 1 := ⟨k - 1, by omega⟩
    rw [l01Name_eq _ a (by omega), IsName_eq _ a (by omega)]
    simp [h1, impl_ValidTuning.j0]

theorem ratioText_size (a b : Int) (ha : 1 ≤ a ∧ a ≤ 1000000) (hb : 1 ≤ b ∧ b ≤ 1000000) : (ratioText a b).size ≤ 65 := by
  have h1 := itoa_size a (by omega)
  have h2 := itoa_size b (by omega)
  unfold ratioText
  rw [ByteArray.size_append, ByteArray.size_append, slash_size]
  omega
theorem blank_size : (⟨#[32]⟩ : ByteArray).size = 1 := rfl
theorem text_l0 (l : List S59) (g : GoodT l) (d : Nat) : ∀ (i : Nat) (s : ByteArray), l.length = i + d → s.size ≤ 1048576 + 70 * i →
    ∃ r, ∀ k, 1000200 + d < k → spec_l04Text.l0 k l s i = some r ∧ impl_TuningText.l0 k s l l.length i = some r := by
  have hl := g.len
  induction d with
  | zero =>
    intro i s hd hs
    refine ⟨s, fun k hk => ?_⟩
    obtain ⟨k, rfl⟩ : ∃ m, k = m + 1 := ⟨k - 1, by omega⟩
    have e : ¬ (i : Int) < (l.length : Int) := by omega
    simp only [spec_l04Text.l0, impl_TuningText.l0]
    rw [if_neg e, if_neg e]; exact ⟨rfl, rfl⟩
  | succ d ih =>
    intro i s hd hs
    obtain ⟨hr, _⟩ := g.el i (by omega)
    have e : (i : Int) < (l.length : Int) := by omega
    have e0 : 0 ≤ (i : Int) := by omega
    have ew : wrap64 ((i : Int) + 1) = ((i + 1 : Nat) : Int) := by rw [wr (n := (i : Int) + 1) (by omega)]; omega
    generalize hx : rd_T59 l (i : Int) = x at *
    have hz := ratioText_size x.f0 x.f1 hr.1 hr.2.1
    have q1 : 1 + (ratioText x.f0 x.f1).size ≤ 9223372036854775807 := by omega
    have hu : ((⟨#[32]⟩ : ByteArray) ++ ratioText x.f0 x.f1).size = 1 + (ratioText x.f0 x.f1).size := by rw [ByteArray.size_append, blank_size]
    have q2 : s.size + ((⟨#[32]⟩ : ByteArray) ++ ratioText x.f0 x.f1).size ≤ 9223372036854775807 := by rw [hu]; omega
    obtain ⟨r, h⟩ := ih (i + 1) (s ++ ((⟨#[32]⟩ : ByteArray) ++ ratioText x.f0 x.f1)) (by omega) (by rw [ByteArray.size_append, hu]; omega)
    refine ⟨r, fun k hk => ?_⟩
    obtain ⟨k, rfl⟩ : ∃ m, k = m + 1 := ⟨k - 1, by omega⟩
    have b1 : -9223372036854775808 ≤ x.f0 ∧ x.f0 ≤ 9223372036854775807 := by have := hr.1; omega
    have b2 : -9223372036854775808 ≤ x.f1 ∧ x.f1 ≤ 9223372036854775807 := by have := hr.2.1; omega
    simp only [spec_l04Text.l0, impl_TuningText.l0, hx]
    rw [if_pos e, if_pos e0, l02Text_eq k _ _ b1 b2 (by omega), Option.bind_some, if_pos q1, if_pos q2, if_pos e, if_pos e0, if_pos e, RatioText_eq k _ _ (by omega), Option.bind_some, if_pos hr, if_pos q1, if_pos q2, ew]
    exact h k (by omega)
theorem tuningText_eq (a : ByteArray) (l : List S59) (ha : a.size ≤ 1048576) : ∃ r, ∀ k, 1000300 < k → spec_TuningText.f k a l = some r ∧ impl_TuningText.f k a l = some r := by
  obtain ⟨v, hv, hg⟩ := tuning_eq a l
  unfold spec_TuningText.f impl_TuningText.f
  cases v with
  | false => exact ⟨⟨#[]⟩, fun k hk => by rw [(hv k (by omega)).1, (hv k (by omega)).2]; exact ⟨rfl, rfl⟩⟩
  | true =>
    have hl := (hg rfl).len
    obtain ⟨r, h⟩ := text_l0 l (hg rfl) l.length 0 a (by omega) (by omega)
    refine ⟨r, fun k hk => ?_⟩
    obtain ⟨h1, h2⟩ := h k (by omega)
    simp only [Int.natCast_zero] at h1 h2
    rw [(hv k (by omega)).1, (hv k (by omega)).2]
    simp only [Option.bind_some, if_true, spec_l04Text.f, h1, h2]
    exact ⟨trivial, trivial⟩
theorem FnExactTuningText : laws_FnExactTuningText.Pure := by
  intro a l ha hl
  refine ⟨4000001, ?_⟩
  unfold laws_FnExactTuningText.f
  obtain ⟨r, h1, h2⟩ := szTuning_eq a l 1048576 ha hl (by omega)
  rw [h1]; simp only [Option.bind_some]
  by_cases c1 : r < 0
  · rw [if_pos c1]
  · rw [if_neg c1, toTuning_eq _ a l (by omega) (by omega)]
    obtain ⟨q, hq⟩ := tuningText_eq a (l.map toT) (by omega)
    simp only [Option.bind_some, (hq 4000001 (by omega)).1, (hq 4000001 (by omega)).2, if_true]
    rw [eqTuning_self _ a _ (by simp; omega) (by simp; omega)]; simp

end Go.Proofs.YtigjcobannhdlaaDoor.Pure
