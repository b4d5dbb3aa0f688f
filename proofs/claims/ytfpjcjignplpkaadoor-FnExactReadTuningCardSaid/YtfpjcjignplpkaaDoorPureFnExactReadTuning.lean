/- Proved: the plain statement of the law FnExactReadTuning: the program's function and the reference's give the same answer. Conditions: none beyond the statement's own. -/
import Derived.Test.YtfpjcjignplpkaaDoorPFnExactReadTuningx10
import Derived.Lib.IndexBytes
import Derived.Lib.ParseIntB
import Derived.Lib.ItoaNum
import Derived.Lib.Join
import Derived.Lib.Split
namespace Go.Proofs.YtfpjcjignplpkaaDoor.Pure
open Go.RowKit Go.Proofs.YtfpjcjignplpkaaDoor.PFnExactReadTuning Go.Proofs.YtfpjcjignplpkaaDoorW.PrintWords Go.Proofs.YtfpjcjignplpkaaDoorW.PrintLast
set_option linter.unusedVariables false
set_option linter.unusedSimpArgs false

theorem wr {n : Int} (h : -9223372036854775808 ≤ n ∧ n ≤ 9223372036854775807) : wrap64 n = n := by unfold wrap64; omega

def isDig (b : UInt8) : Prop := 48 ≤ b.toNat ∧ b.toNat ≤ 57
def numAcc (acc : Nat) (l : List UInt8) : Nat := l.foldl (fun n c => n * 10 + (c.toNat - 48)) acc
theorem nA_nil (acc : Nat) : numAcc acc [] = acc := rfl
theorem nA_cons (acc : Nat) (c : UInt8) (r : List UInt8) : numAcc acc (c :: r) = numAcc (acc * 10 + (c.toNat - 48)) r := by unfold numAcc; rw [List.foldl_cons]
theorem numAcc_ge : ∀ (l : List UInt8) (acc : Nat), acc ≤ numAcc acc l
  | [], acc => Nat.le_refl _
  | c :: r, acc => by have := numAcc_ge r (acc * 10 + (c.toNat - 48)); rw [nA_cons]; omega
theorem numAcc_append : ∀ (l r : List UInt8) (acc : Nat), numAcc acc (l ++ r) = numAcc (numAcc acc l) r
  | [], r, acc => by rw [nA_nil, List.nil_append]
  | c :: l, r, acc => by rw [List.cons_append, nA_cons, nA_cons, numAcc_append l r]
theorem numAcc_lt : ∀ (l : List UInt8) (acc : Nat), (∀ c ∈ l, isDig c) → numAcc acc l < (acc + 1) * 10 ^ l.length
  | [], acc, _ => by rw [nA_nil]; simp
  | c :: r, acc, h => by
    have hc : isDig c := h c (by simp)
    have h1 := numAcc_lt r (acc * 10 + (c.toNat - 48)) (fun x hx => h x (by simp [hx]))
    unfold isDig at hc
    rw [nA_cons, List.length_cons, Nat.pow_succ]
    refine Nat.lt_of_lt_of_le h1 ?_
    rw [Nat.mul_comm (10 ^ r.length) 10, ← Nat.mul_assoc]
    exact Nat.mul_le_mul_right _ (by omega)
theorem parseM_ok (M : Nat) (hM : M ≤ 18446744073709551615) : ∀ (l : List UInt8) (acc : Nat), (∀ c ∈ l, isDig c) → numAcc acc l ≤ M → Go.Lib.parseUintM M acc l = .ok (numAcc acc l)
  | [], acc, _, _ => by rw [nA_nil]; rfl
  | c :: r, acc, h, hm => by
    have hc : isDig c := h c (by simp)
    have hg := numAcc_ge r (acc * 10 + (c.toNat - 48))
    rw [nA_cons] at hm ⊢
    rw [Go.Lib.parseUintM, if_pos (show 48 ≤ c.toNat ∧ c.toNat ≤ 57 from hc), if_neg (by omega), if_neg (by omega)]
    exact parseM_ok M hM r _ (fun x hx => h x (by simp [hx])) hm
theorem dig_byte (c : UInt8) (h : isDig c) : UInt8.ofNat (48 + (c.toNat - 48)) = c := by
  unfold isDig at h
  rw [show 48 + (c.toNat - 48) = c.toNat by omega]
  simp
theorem dec_append : ∀ (l : List UInt8) (acc : Nat), 1 ≤ acc → (∀ c ∈ l, isDig c) → Go.Lib.decDigits (numAcc acc l) = Go.Lib.decDigits acc ++ l
  | [], acc, _, _ => by rw [nA_nil]; simp
  | c :: r, acc, h1, h => by
    have hc : isDig c := h c (by simp)
    rw [nA_cons, dec_append r _ (by omega) (fun x hx => h x (by simp [hx]))]
    have e : Go.Lib.decDigits (acc * 10 + (c.toNat - 48)) = Go.Lib.decDigits acc ++ [c] := by
      have hd := dig_byte c hc
      unfold isDig at hc
      rw [Go.Lib.decDigits, dif_neg (by omega), show (acc * 10 + (c.toNat - 48)) / 10 = acc by omega, show (acc * 10 + (c.toNat - 48)) % 10 = c.toNat - 48 by omega, hd]
    rw [e, List.append_assoc]; rfl
/-- A numeral without needless zeros is the numeral of its value. -/
theorem dec_of_digits (c : UInt8) (r : List UInt8) (h : ∀ x ∈ c :: r, isDig x) (hz : c.toNat = 48 → r = []) : Go.Lib.decDigits (numAcc 0 (c :: r)) = c :: r := by
  have hc : isDig c := h c (by simp)
  have hd := dig_byte c hc
  by_cases z : c.toNat = 48
  · have := hz z
    subst this
    rw [nA_cons, nA_nil, Go.Lib.decDigits, dif_pos (by omega)]
    rw [z] at hd ⊢
    rw [show 48 + (0 * 10 + (48 - 48)) = 48 + (48 - 48) by omega, hd]
  · have hc' := hc
    unfold isDig at hc'
    rw [nA_cons, dec_append r _ (by omega) (fun x hx => h x (by simp [hx])), Go.Lib.decDigits, dif_pos (by omega), show 48 + (0 * 10 + (c.toNat - 48)) = 48 + (c.toNat - 48) by omega, hd]; rfl
theorem ofNat_dig (u : Nat) (h : u < 10) : isDig (UInt8.ofNat (48 + u)) ∧ (UInt8.ofNat (48 + u)).toNat = 48 + u := by
  unfold isDig
  rw [UInt8.toNat_ofNat', Nat.mod_eq_of_lt (by omega)]
  omega
theorem decDigits_dig (u : Nat) : ∀ c ∈ Go.Lib.decDigits u, isDig c := by
  induction u using Nat.strongRecOn with
  | _ u ih =>
    intro c hc
    by_cases h : u < 10
    · rw [Go.Lib.decDigits, dif_pos h, List.mem_singleton] at hc
      subst hc; exact (ofNat_dig u h).1
    · rw [Go.Lib.decDigits, dif_neg h, List.mem_append, List.mem_singleton] at hc
      rcases hc with hc | rfl
      · exact ih (u / 10) (by omega) c hc
      · exact (ofNat_dig _ (by omega)).1
theorem numAcc_dec (u : Nat) : numAcc 0 (Go.Lib.decDigits u) = u := by
  induction u using Nat.strongRecOn with
  | _ u ih =>
    by_cases h : u < 10
    · rw [Go.Lib.decDigits, dif_pos h, nA_cons, nA_nil, (ofNat_dig u h).2]; omega
    · rw [Go.Lib.decDigits, dif_neg h, numAcc_append, ih (u / 10) (by omega), nA_cons, nA_nil, (ofNat_dig _ (by omega)).2]; omega
/-- The first digit is no zero, but for zero itself. -/
theorem decDigits_head (u : Nat) : ∃ c r, Go.Lib.decDigits u = c :: r ∧ (c.toNat = 48 → r = []) := by
  induction u using Nat.strongRecOn with
  | _ u ih =>
    by_cases h : u < 10
    · exact ⟨_, [], by rw [Go.Lib.decDigits, dif_pos h], fun _ => rfl⟩
    · obtain ⟨c, r, e, hz⟩ := ih (u / 10) (by omega)
      refine ⟨c, r ++ [UInt8.ofNat (48 + u % 10)], by rw [Go.Lib.decDigits, dif_neg h, e]; rfl, fun z => ?_⟩
      have hr := hz z
      subst hr
      exfalso
      have hn := numAcc_dec (u / 10)
      rw [e, nA_cons, nA_nil, z] at hn
      omega
theorem nDigits_pow : ∀ (k u : Nat), 1 ≤ k → u < 10 ^ k → Go.Lib.nDigits u ≤ k
  | 0, _, h, _ => by omega
  | k + 1, u, _, h => by
    by_cases hs : u < 10
    · rw [Go.Lib.nDigits_small hs]; omega
    · rw [Go.Lib.nDigits_big hs]
      rw [Nat.pow_succ] at h
      cases k with
      | zero => simp at h; omega
      | succ k => have := nDigits_pow (k + 1) (u / 10) (by omega) (by omega); omega
/-- What a numeral of at most 18 digits looks like. -/
def Numeral (l : List UInt8) : Prop := ∃ c r, l = c :: r ∧ l.length ≤ 18 ∧ (∀ x ∈ l, isDig x) ∧ (c.toNat = 48 → r = [])
theorem dec_numeral (u : Nat) (h : u < 1000000000000000000) : Numeral (Go.Lib.decDigits u) := by
  obtain ⟨c, r, e, hz⟩ := decDigits_head u
  refine ⟨c, r, e, ?_, decDigits_dig u, hz⟩
  rw [Go.Lib.decDigits_length]
  exact nDigits_pow 18 u (by omega) (by omega)
theorem numeral_dec (l : List UInt8) (h : Numeral l) : Go.Lib.decDigits (numAcc 0 l) = l ∧ numAcc 0 l < 1000000000000000000 := by
  obtain ⟨c, r, rfl, hl, hd, hz⟩ := h
  refine ⟨dec_of_digits c r hd hz, ?_⟩
  have h1 := numAcc_lt (c :: r) 0 hd
  refine Nat.lt_of_lt_of_le h1 ?_
  rw [Nat.zero_add, Nat.one_mul]
  exact Nat.le_trans (Nat.pow_le_pow_right (by omega) hl) (by omega)

theorem Decimal_it (n : Int) (hb : -9223372036854775808 ≤ n ∧ n ≤ 9223372036854775807) : impl_Decimal.f n = some ⟨(Go.Lib.itoa n).toArray⟩ := by
  unfold impl_Decimal.f strconv_FormatInt.f
  rw [if_pos ⟨rfl, hb⟩]; rfl
theorem itoa_size2 (n : Int) (hb : -9223372036854775808 ≤ n ∧ n ≤ 9223372036854775807) : (⟨(Go.Lib.itoa n).toArray⟩ : ByteArray).size ≤ 32 := by
  have hd := nDigits_pow 20 n.natAbs (by omega) (by omega)
  show ((Go.Lib.itoa n).toArray).size ≤ 32
  unfold Go.Lib.itoa
  split
  · rw [List.size_toArray, List.length_cons, Go.Lib.decDigits_length]; omega
  · rw [List.size_toArray, Go.Lib.decDigits_length, show n.toNat = n.natAbs by omega]; omega

theorem bt_get (s : ByteArray) (i : Nat) (h : i < s.data.toList.length) : bt s i = ((s.data.toList[i]).toNat : Int) := by
  unfold bt
  have h' : (i : Int).toNat < s.size := by rw [Int.toNat_natCast, Go.Lib.size_eq]; exact h
  rw [dif_pos h']
  simp only [Int.toNat_natCast, Array.getElem_toList]
  rfl
theorem digit_eq' (c : Int) : spec_l01Digit.f c = some (decide (48 ≤ c ∧ c ≤ 57)) := by
  unfold spec_l01Digit.f
  by_cases h : c ≥ 48 <;> simp [h]
instance isDigDec (c : UInt8) : Decidable (isDig c) := by unfold isDig; infer_instance
theorem number_l0 (s : ByteArray) (x4 : Int) (hs : s.size ≤ 20) (d : Nat) : ∀ (k i n : Nat), s.data.toList.length = i + d → d < k → (n + 1) * 10 ^ d ≤ 1000000000000000000 →
    spec_l01Number.l0 k s x4 n i = if ∀ c ∈ s.data.toList.drop i, isDig c then (if x4 = 1 then some (-(numAcc n (s.data.toList.drop i) : Int), true) else some ((numAcc n (s.data.toList.drop i) : Int), true)) else some (0, false) := by
  have hz := Go.Lib.size_eq s
  induction d with
  | zero =>
    intro k i n hd hk hn
    obtain ⟨k, rfl⟩ : ∃ m, k = m + 1 := ⟨k - 1, by omega⟩
    have e : s.data.toList.drop i = [] := List.drop_eq_nil_of_le (by omega)
    have e1 : ¬ (i : Int) < (s.size : Int) := by omega
    simp only [spec_l01Number.l0]
    rw [if_neg e1, e, nA_nil, if_pos (show ∀ c ∈ ([] : List UInt8), isDig c from fun c hc => by cases hc), wr (n := -(n : Int)) (by simp at hn; omega)]
  | succ d ih =>
    intro k i n hd hk hn
    obtain ⟨k, rfl⟩ : ∃ m, k = m + 1 := ⟨k - 1, by omega⟩
    have hi : i < s.data.toList.length := by omega
    have e := List.drop_eq_getElem_cons hi
    have e1 : (i : Int) < (s.size : Int) := by omega
    have e2 : 0 ≤ (i : Int) := by omega
    have eb := bt_get s i hi
    rw [e]
    generalize s.data.toList[i] = c at e eb
    have hlt := c.toNat_lt
    have hp : 1 ≤ 10 ^ d := Nat.one_le_pow _ _ (by omega)
    rw [Nat.pow_succ] at hn
    have hn1 : n + 1 ≤ (n + 1) * (10 ^ d * 10) := Nat.le_mul_of_pos_right _ (by omega)
    have hn2 : (n + 1) * 10 ≤ (n + 1) * (10 ^ d * 10) := Nat.mul_le_mul_left _ (by omega)
    simp only [spec_l01Number.l0]
    rw [if_pos e1, if_pos e2, digit_eq', Option.bind_some, eb, wr (n := (i : Int) + 1) (by omega)]
    by_cases hc : isDig c
    · have hc' := hc
      unfold isDig at hc'
      have w1 : wrap64 (10 * (n : Int)) = 10 * (n : Int) := wr (by omega)
      have w2 : wrap64 (10 * (n : Int) + ((c.toNat : Int) - 48) % 256) = ((n * 10 + (c.toNat - 48) : Nat) : Int) := by rw [wr (by omega)]; omega
      have hcond : (48 ≤ (c.toNat : Int) ∧ (c.toNat : Int) ≤ 57) := by omega
      have ec : ((i : Int) + 1) = ((i + 1 : Nat) : Int) := by omega
      rw [if_pos (by simp only [hcond, and_self, decide_true]), w1, w2, ec, ih k (i + 1) (n * 10 + (c.toNat - 48)) (by omega) (by omega) ?_, nA_cons]
      · by_cases hall : ∀ x ∈ s.data.toList.drop (i + 1), isDig x
        · rw [if_pos hall, if_pos (show ∀ x ∈ c :: s.data.toList.drop (i + 1), isDig x from fun x hx => by rcases List.mem_cons.1 hx with rfl | hx; exact hc; exact hall x hx)]
        · rw [if_neg hall, if_neg (show ¬ ∀ x ∈ c :: s.data.toList.drop (i + 1), isDig x from fun h => hall fun x hx => h x (List.mem_cons_of_mem _ hx))]
      · refine Nat.le_trans (Nat.mul_le_mul_right (10 ^ d) (show n * 10 + (c.toNat - 48) + 1 ≤ (n + 1) * 10 by omega)) ?_
        rw [Nat.mul_assoc, Nat.mul_comm 10 (10 ^ d)]; exact hn
    · have hc' := hc
      unfold isDig at hc'
      rw [if_neg (by rw [decide_eq_true_eq]; omega), if_neg (show ¬ ∀ x ∈ c :: s.data.toList.drop (i + 1), isDig x from fun h => hc (h c (List.mem_cons_self ..)))]
/-- A number of at most 18 digits. -/
def Sm (v : Int) : Prop := -1000000000000000000 < v ∧ v < 1000000000000000000
theorem itoa_ne_nil (v : Int) : Go.Lib.itoa v ≠ [] := by
  intro h
  unfold Go.Lib.itoa at h
  split at h
  · simp at h
  · obtain ⟨c, r, e, _⟩ := decDigits_head v.toNat
    rw [e] at h; simp at h
/-- What the reference reads: the number whose numeral the text is. -/
theorem number_eq (s : ByteArray) (hs : s.size ≤ 140737488351232) (k : Nat) (hk : 40 ≤ k) :
    (∃ v, Sm v ∧ Go.Lib.itoa v = s.data.toList ∧ spec_l01Number.f k s = some (v, true)) ∨ ((∀ v, Sm v → Go.Lib.itoa v ≠ s.data.toList) ∧ spec_l01Number.f k s = some (0, false)) := by
  have hz := Go.Lib.size_eq s
  obtain ⟨k, rfl⟩ : ∃ m, k = m + 1 + 1 + 1 := ⟨k - 3, by omega⟩
  unfold spec_l01Number.f
  generalize hl : s.data.toList = l at hz
  cases l with
  | nil =>
    right
    rw [List.length_nil] at hz
    have e1 : ¬ (s.size : Int) > 0 := by omega
    have e2 : (s.size : Int) = 0 := by omega
    refine ⟨fun v _ => itoa_ne_nil v, ?_⟩
    rw [if_neg e1]
    simp only [spec_l01Number.j0, Bool.false_eq_true, if_false, spec_l01Number.j1]
    rw [if_pos e2]
    simp only [spec_l01Number.j2, if_true]
  | cons c r =>
    have hlt := c.toNat_lt
    rw [List.length_cons] at hz
    have e1 : (s.size : Int) > 0 := by omega
    have e2 : 0 < (s.size : Int) := by omega
    have eb : bt s 0 = (c.toNat : Int) := by
      have := bt_get s 0 (by rw [hl]; simp)
      simp only [hl] at this
      simpa using this
    rw [if_pos e1, if_pos e2, eb]
    simp only [spec_l01Number.j0]
    by_cases hm : c.toNat = 45
    · -- a minus ahead
      have hc : c = 45 := UInt8.toNat_inj.1 hm
      rw [if_pos (by rw [hm]; rfl)]
      simp only [spec_l01Number.j1]
      have noneg : ∀ v, Go.Lib.itoa v = c :: r → v < 0 ∧ Go.Lib.decDigits v.natAbs = r := by
        intro v hv
        unfold Go.Lib.itoa at hv
        by_cases hn : v < 0
        · rw [if_pos hn] at hv; exact ⟨hn, (List.cons.inj hv).2⟩
        · rw [if_neg hn] at hv
          have := decDigits_dig v.toNat c (by rw [hv]; simp)
          unfold isDig at this; omega
      have falsely : (¬ Numeral r ∨ ∃ x q, r = x :: q ∧ x.toNat = 48) → ∀ v, Sm v → Go.Lib.itoa v ≠ c :: r := by
        intro hN v hv he
        obtain ⟨hn, hd⟩ := noneg v he
        unfold Sm at hv
        rcases hN with hN | ⟨x, q, rfl, hx⟩
        · exact hN (hd ▸ dec_numeral v.natAbs (by omega))
        · obtain ⟨c', r', e', hz'⟩ := decDigits_head v.natAbs
          rw [hd] at e'
          obtain ⟨rfl, rfl⟩ := List.cons.inj e'
          have hq := hz' hx
          subst hq
          have := numAcc_dec v.natAbs
          rw [hd, nA_cons, nA_nil, hx] at this
          omega
      cases r with
      | nil =>
        right
        rw [if_pos (by rw [List.length_nil] at hz; omega)]
        simp only [spec_l01Number.j2, if_true]
        exact ⟨falsely (.inl fun ⟨_, _, h, _⟩ => by cases h), trivial⟩
      | cons x q =>
        have hxlt := x.toNat_lt
        rw [List.length_cons] at hz
        rw [if_neg (by omega), wr (n := (s.size : Int) - 1) (by omega)]
        by_cases h18 : (s.size : Int) - 1 > 18
        · right
          rw [if_pos h18]
          simp only [spec_l01Number.j2, if_true]
          exact ⟨falsely (.inl fun ⟨_, _, _, h, _⟩ => by rw [List.length_cons] at h; omega), trivial⟩
        · have eb1 : bt s 1 = (x.toNat : Int) := by
            have := bt_get s 1 (by rw [hl]; simp)
            simp only [hl] at this
            simpa using this
          rw [if_neg h18, if_pos (by omega), if_pos (by omega), eb1]
          by_cases h48 : x.toNat = 48
          · right
            rw [if_pos (by omega), show decide ((s.size : Int) > 1) = true from decide_eq_true (by omega)]
            simp only [spec_l01Number.j2, if_true]
            exact ⟨falsely (.inr ⟨x, q, rfl, h48⟩), trivial⟩
          · rw [if_neg (by omega)]
            simp only [spec_l01Number.j2, Bool.false_eq_true, if_false]
            have hL := number_l0 s 1 (by omega) (q.length + 1) k 1 0 (by rw [hl]; simp; omega) (by omega) (by
              rw [Nat.zero_add, Nat.one_mul]; exact Nat.le_trans (Nat.pow_le_pow_right (n := 10) (j := 18) (by omega) (by omega)) (by omega))
            have ed : s.data.toList.drop 1 = x :: q := by rw [hl]; rfl
            rw [ed] at hL
            have hL' : spec_l01Number.l0 k s 1 0 1 = _ := hL
            rw [hL']
            by_cases hall : ∀ y ∈ x :: q, isDig y
            · left
              have hN : Numeral (x :: q) := ⟨x, q, rfl, by rw [List.length_cons]; omega, hall, fun h => absurd h h48⟩
              obtain ⟨hd, hb⟩ := numeral_dec _ hN
              have hpos : 1 ≤ numAcc 0 (x :: q) := by
                rcases Nat.eq_zero_or_pos (numAcc 0 (x :: q)) with h0 | h0
                · rw [h0, Go.Lib.decDigits, dif_pos (by omega)] at hd
                  have := (List.cons.inj hd).1
                  exfalso; apply h48; rw [← this]; rfl
                · exact h0
              refine ⟨-(numAcc 0 (x :: q) : Int), by unfold Sm; omega, ?_, by rw [if_pos hall, if_pos rfl]⟩
              unfold Go.Lib.itoa
              rw [if_pos (by omega), show (-(numAcc 0 (x :: q) : Int)).natAbs = numAcc 0 (x :: q) by omega, hd, hc]
            · right
              rw [if_neg hall]
              exact ⟨falsely (.inl fun ⟨_, _, _, _, h, _⟩ => hall h), rfl⟩
    · -- no minus
      have hne : ¬ ((c.toNat : Int) == 45) = true := by rw [beq_iff_eq]; omega
      rw [if_neg hne]
      simp only [spec_l01Number.j1]
      have falsely : ¬ Numeral (c :: r) → ∀ v, Sm v → Go.Lib.itoa v ≠ c :: r := by
        intro hN v hv he
        unfold Go.Lib.itoa at he
        unfold Sm at hv
        by_cases hn : v < 0
        · rw [if_pos hn] at he
          exact hm (by rw [← (List.cons.inj he).1]; rfl)
        · rw [if_neg hn] at he
          exact hN (he ▸ dec_numeral v.toNat (by omega))
      have hL : s.size ≤ 18 → spec_l01Number.l0 k s 0 0 0 = if ∀ y ∈ c :: r, isDig y then some ((numAcc 0 (c :: r) : Int), true) else some (0, false) := by
        intro h18
        have hL := number_l0 s 0 (by omega) (r.length + 1) k 0 0 (by rw [hl]; simp) (by omega) (by
          rw [Nat.zero_add, Nat.one_mul]; exact Nat.le_trans (Nat.pow_le_pow_right (n := 10) (j := 18) (by omega) (by omega)) (by omega))
        rw [List.drop_zero, hl, if_neg (show ¬ (0 : Int) = 1 by omega)] at hL
        exact hL
      rw [if_neg (by omega), wr (n := (s.size : Int) - 0) (by omega)]
      by_cases h18 : (s.size : Int) - 0 > 18
      · right
        rw [if_pos h18]
        simp only [spec_l01Number.j2, if_true]
        exact ⟨falsely (fun ⟨_, _, _, h, _⟩ => by rw [List.length_cons] at h; omega), trivial⟩
      · rw [if_neg h18, if_pos (by omega), if_pos e2, eb]
        have tail : (c.toNat = 48 → r = []) → ((∃ v, Sm v ∧ Go.Lib.itoa v = c :: r ∧ spec_l01Number.l0 k s 0 0 0 = some (v, true)) ∨ ((∀ v, Sm v → Go.Lib.itoa v ≠ c :: r) ∧ spec_l01Number.l0 k s 0 0 0 = some (0, false))) := by
          intro hz48
          rw [hL (by omega)]
          by_cases hall : ∀ y ∈ c :: r, isDig y
          · left
            have hN : Numeral (c :: r) := ⟨c, r, rfl, by rw [List.length_cons]; omega, hall, hz48⟩
            obtain ⟨hd, hb⟩ := numeral_dec _ hN
            refine ⟨(numAcc 0 (c :: r) : Int), by unfold Sm; omega, ?_, by rw [if_pos hall]⟩
            unfold Go.Lib.itoa
            rw [if_neg (by omega), Int.toNat_natCast, hd]
          · right
            rw [if_neg hall]
            exact ⟨falsely (fun ⟨_, _, _, _, h, _⟩ => hall h), rfl⟩
        by_cases h48 : c.toNat = 48
        · rw [if_pos (by omega)]
          by_cases hr : r = []
          · subst hr
            rw [show decide ((s.size : Int) > 1) = false from decide_eq_false (by rw [List.length_nil] at hz; omega)]
            simp only [spec_l01Number.j2, Bool.false_eq_true, if_false]
            exact tail (fun _ => rfl)
          · have hrl : 1 ≤ r.length := List.length_pos_iff.2 hr
            rw [show decide ((s.size : Int) > 1) = true from decide_eq_true (by omega)]
            right
            simp only [spec_l01Number.j2, if_true]
            refine ⟨falsely (fun ⟨c', r', e, _, _, h⟩ => ?_), trivial⟩
            obtain ⟨rfl, rfl⟩ := List.cons.inj e
            exact hr (h h48)
        · rw [if_neg (by omega)]
          simp only [spec_l01Number.j2, Bool.false_eq_true, if_false]
          exact tail (fun h => absurd h h48)
theorem ba_ext {a b : ByteArray} (h : a.data.toList = b.data.toList) : a = b := by
  cases a; cases b; congr 1; exact Array.toList_inj.1 h
theorem parse_itoa (v : Int) (hv : Sm v) : Go.Lib.parseIntB 64 (Go.Lib.itoa v) = .ok v := by
  unfold Sm at hv
  have hp : (2 : Nat) ^ (64 - 1) = 9223372036854775808 := by decide
  have hq : (2 : Nat) ^ 64 - 1 = 18446744073709551615 := by decide
  unfold Go.Lib.itoa
  by_cases hn : v < 0
  · rw [if_pos hn]
    have hd := dec_numeral v.natAbs (by omega)
    have hne : Go.Lib.decDigits v.natAbs ≠ [] := by obtain ⟨c, r, e, _⟩ := hd; rw [e]; simp
    have hok := parseM_ok (2 ^ 64 - 1) (by omega) (Go.Lib.decDigits v.natAbs) 0 (decDigits_dig _) (by rw [numAcc_dec]; omega)
    rw [numAcc_dec] at hok
    simp only [Go.Lib.parseIntB]
    have h45 : (45 : UInt8).toNat = 45 := rfl
    rw [h45, if_pos (by omega)]
    simp only [Go.Lib.parseUintB]
    rw [if_neg hne, hok]
    simp only [hp]
    rw [if_neg (by omega), if_neg (by omega), if_pos trivial]
    congr 1; omega
  · rw [if_neg hn]
    have hd := dec_numeral v.toNat (by omega)
    have hok := parseM_ok (2 ^ 64 - 1) (by omega) (Go.Lib.decDigits v.toNat) 0 (decDigits_dig _) (by rw [numAcc_dec]; omega)
    rw [numAcc_dec] at hok
    obtain ⟨c, r, e, _, hdig, _⟩ := hd
    have hc := hdig c (by rw [e]; simp)
    unfold isDig at hc
    rw [e] at hok ⊢
    simp only [Go.Lib.parseIntB]
    rw [if_neg (by omega)]
    simp only [Go.Lib.parseUintB]
    rw [if_neg (by simp), hok]
    simp only [hp]
    rw [if_neg (by omega), if_neg (by omega), if_neg (by omega)]
    congr 1; omega
theorem parse_range (l : List UInt8) (v : Int) (h : Go.Lib.parseIntB 64 l = .ok v) : -9223372036854775808 ≤ v ∧ v ≤ 9223372036854775807 := by
  have hp : (2 : Nat) ^ (64 - 1) = 9223372036854775808 := by decide
  cases l with
  | nil => simp [Go.Lib.parseIntB] at h
  | cons c r =>
    simp only [Go.Lib.parseIntB, hp] at h
    generalize Go.Lib.parseUintB 64 (if c.toNat = 43 ∨ c.toNat = 45 then r else c :: r) = e at h
    cases e with
    | ok u =>
      dsimp only at h
      by_cases hn : c.toNat = 45
      · rw [if_neg (by omega)] at h
        by_cases h2 : c.toNat = 45 ∧ 9223372036854775808 < u
        · rw [if_pos h2] at h; cases h
        · rw [if_neg h2, if_pos hn] at h
          obtain rfl := Go.Lib.NumEnd.ok.inj h
          omega
      · by_cases h2 : ¬ c.toNat = 45 ∧ 9223372036854775808 ≤ u
        · rw [if_pos h2] at h; cases h
        · rw [if_neg h2, if_neg (by omega), if_neg hn] at h
          obtain rfl := Go.Lib.NumEnd.ok.inj h
          omega
    | _ => cases h
theorem itoa_size18 (v : Int) (hb : -9223372036854775808 ≤ v ∧ v ≤ 9223372036854775807) (h : (Go.Lib.itoa v).length ≤ 18 ∨ (v < 0 ∧ (Go.Lib.itoa v).length ≤ 19)) : Sm v := by
  unfold Sm
  have hpow := Go.Lib.lt_pow_nDigits v.natAbs
  have hlen : Go.Lib.nDigits v.natAbs ≤ 18 := by
    unfold Go.Lib.itoa at h
    by_cases hn : v < 0
    · rw [if_pos hn, List.length_cons, Go.Lib.decDigits_length] at h; omega
    · rw [if_neg hn, Go.Lib.decDigits_length, show v.toNat = v.natAbs by omega] at h; omega
  have h2 := Nat.lt_of_lt_of_le hpow (Nat.pow_le_pow_right (n := 10) (j := 18) (by omega) hlen)
  omega
theorem ext_zero (s : ByteArray) (a : Nat) : (s.extract 0 a).data.toList = s.data.toList.take a := by
  rw [Go.Lib.extract_data]; simp
/-- What is left of a text behind a minus. -/
theorem trim_size (s : ByteArray) (hs : s.size ≤ 140737488351232) : ∃ t, strings_TrimPrefix.f s (⟨#[45]⟩ : ByteArray) = some t ∧ t.size = if s.data.toList.head? = some 45 then s.size - 1 else s.size := by
  have hz := Go.Lib.size_eq s
  have h1 : ((⟨#[45]⟩ : ByteArray).size : Int) = 1 := rfl
  unfold strings_TrimPrefix.f stringslite_TrimPrefix.f stringslite_HasPrefix.f
  rw [h1]
  by_cases hc : (s.size : Int) ≥ 1
  · rw [if_pos hc, if_pos (by omega), if_pos (by omega), Option.bind_some]
    have e1 : ((1 : Int)).toNat = 1 := rfl
    rw [e1]
    have hx : ((s.extract 0 1).toList == (⟨#[45]⟩ : ByteArray).toList) = decide (s.data.toList.head? = some 45) := by
      have e2 : (s.extract 0 1).toList = s.data.toList.take 1 := by
        rw [Go.ByteArray.toList_eq, ext_zero]
      have e3 : (⟨#[45]⟩ : ByteArray).toList = [45] := by rw [Go.ByteArray.toList_eq]
      rw [e2, e3]
      cases hl : s.data.toList with
      | nil => rw [hl, List.length_nil] at hz; omega
      | cons c r =>
        simp only [List.take_succ_cons, List.take_zero, List.head?_cons, Option.some.injEq]
        by_cases e : c = 45 <;> simp [e]
    rw [hx]
    by_cases hh : s.data.toList.head? = some 45
    · rw [if_pos (decide_eq_true hh), if_pos (by omega), if_pos (by omega), Option.bind_some, if_pos hh]
      exact ⟨_, rfl, by rw [ByteArray.size_extract]; omega⟩
    · rw [if_neg (by simpa using hh), Option.bind_some, if_neg hh]
      exact ⟨_, rfl, rfl⟩
  · rw [if_neg hc, Option.bind_some]
    have e : s.data.toList = [] := List.length_eq_zero_iff.1 (by omega)
    rw [if_neg (by simp), Option.bind_some, e, if_neg (by simp)]
    exact ⟨_, rfl, rfl⟩
/-- The program reads the number whose numeral the text is. -/
theorem readDec_eq (s : ByteArray) (hs : s.size ≤ 140737488351232) :
    (∀ v, Sm v → Go.Lib.itoa v = s.data.toList → impl_ReadDecimal.f s = some (v, true)) ∧ ((∀ v, Sm v → Go.Lib.itoa v ≠ s.data.toList) → impl_ReadDecimal.f s = some (0, false)) := by
  have hz := Go.Lib.size_eq s
  obtain ⟨t, ht, hts⟩ := trim_size s hs
  have eL : ∀ v, (⟨(Go.Lib.itoa v).toArray⟩ : ByteArray).toList = Go.Lib.itoa v := fun v => by rw [Go.ByteArray.toList_eq]
  have eS : s.toList = s.data.toList := Go.ByteArray.toList_eq _
  unfold impl_ReadDecimal.f
  rw [if_pos (by omega), ht]
  refine ⟨fun v hv he => ?_, fun hno => ?_⟩
  · rw [← he, parse_itoa v hv]
    have hb : -9223372036854775808 ≤ v ∧ v ≤ 9223372036854775807 := by unfold Sm at hv; omega
    have h18 : ¬ (t.size : Int) > 18 := by
      unfold Sm at hv
      rw [hts, hz, ← he]
      unfold Go.Lib.itoa
      by_cases hn : v < 0
      · rw [if_pos hn]
        have hd := nDigits_pow 18 v.natAbs (by omega) (by omega)
        rw [if_pos List.head?_cons, List.length_cons, Go.Lib.decDigits_length]; omega
      · rw [if_neg hn]
        have hd := nDigits_pow 18 v.toNat (by omega) (by omega)
        split <;> rw [Go.Lib.decDigits_length] <;> omega
    simp only [Option.bind_some]
    rw [if_neg h18, Decimal_it v hb, Option.bind_some, eL, eS, he, if_pos rfl]
  · cases hp : Go.Lib.parseIntB 64 s.data.toList with
    | ok v =>
      have hb := parse_range _ _ hp
      simp only [Option.bind_some]
      by_cases h18 : (t.size : Int) > 18
      · rw [if_pos h18]
      · rw [if_neg h18, Decimal_it v hb, Option.bind_some, eL, eS]
        by_cases he : Go.Lib.itoa v = s.data.toList
        · exfalso
          refine hno v (itoa_size18 v hb ?_) he
          rw [he, ← hz]
          by_cases hh : s.data.toList.head? = some 45
          · rw [if_pos hh] at hts
            right
            refine ⟨?_, by omega⟩
            rw [← he] at hh
            unfold Go.Lib.itoa at hh
            by_cases hn : v < 0
            · exact hn
            · rw [if_neg hn] at hh
              obtain ⟨c, r, e, _⟩ := decDigits_head v.toNat
              have hd := decDigits_dig v.toNat c (by rw [e]; simp)
              rw [e] at hh
              have : c = 45 := by simpa using hh
              subst this
              unfold isDig at hd
              exact absurd hd (by decide)
          · rw [if_neg hh] at hts; left; omega
        · rw [if_neg he]
    | _ => rfl

/-- A text cut at each byte c. -/
def pcs (c : UInt8) : List UInt8 → List (List UInt8)
  | [] => [[]]
  | b :: l => if b = c then [] :: pcs c l else match pcs c l with
    | [] => [[b]]
    | p :: ps => (b :: p) :: ps
theorem pcs_free (c : UInt8) : ∀ (p : List UInt8), c ∉ p → pcs c p = [p]
  | [], _ => rfl
  | b :: l, h => by
    have h1 : b ≠ c := fun e => h (by rw [e]; exact List.mem_cons_self ..)
    rw [pcs, if_neg h1, pcs_free c l (fun hm => h (List.mem_cons_of_mem _ hm))]
theorem pcs_app (c : UInt8) (q : List UInt8) : ∀ (p : List UInt8), c ∉ p → pcs c (p ++ c :: q) = p :: pcs c q
  | [], _ => by rw [List.nil_append, pcs, if_pos rfl]
  | b :: l, h => by
    have h1 : b ≠ c := fun e => h (by rw [e]; exact List.mem_cons_self ..)
    rw [List.cons_append, pcs, if_neg h1, pcs_app c q l (fun hm => h (List.mem_cons_of_mem _ hm))]
/-- A text is free of a byte, or has a first one. -/
theorem first_of (c : UInt8) : ∀ (l : List UInt8), c ∉ l ∨ ∃ p q, l = p ++ c :: q ∧ c ∉ p
  | [] => .inl (by simp)
  | b :: l => by
    by_cases e : b = c
    · exact .inr ⟨[], l, by rw [e]; rfl, by simp⟩
    · rcases first_of c l with h | ⟨p, q, rfl, hp⟩
      · exact .inl (by intro hm; rcases List.mem_cons.1 hm with h1 | h1; exact e h1.symm; exact h h1)
      · exact .inr ⟨b :: p, q, rfl, by intro hm; rcases List.mem_cons.1 hm with h1 | h1; exact e h1.symm; exact hp h1⟩
theorem idx_free (c : UInt8) : ∀ (p : List UInt8), c ∉ p → Go.Lib.index p [c] = -1 := by
  intro p h
  rw [Go.Lib.index_one]
  induction p with
  | nil => rfl
  | cons b l ih =>
    have h1 : b ≠ c := fun e => h (by rw [e]; exact List.mem_cons_self ..)
    rw [Go.Lib.indexByte, ih (fun hm => h (List.mem_cons_of_mem _ hm)), if_neg (by simpa using h1), if_pos (by decide)]
theorem idx_app (c : UInt8) (q : List UInt8) : ∀ (p : List UInt8), c ∉ p → Go.Lib.index (p ++ c :: q) [c] = (p.length : Int) := by
  intro p h
  rw [Go.Lib.index_one]
  induction p with
  | nil => rw [List.nil_append, Go.Lib.indexByte, if_pos (by simp)]; rfl
  | cons b l ih =>
    have h1 : b ≠ c := fun e => h (by rw [e]; exact List.mem_cons_self ..)
    rw [List.cons_append, Go.Lib.indexByte, ih (fun hm => h (List.mem_cons_of_mem _ hm)), if_neg (by simpa using h1), if_neg (by rw [beq_iff_eq]; omega), List.length_cons]
    omega
theorem pcs_pos (c : UInt8) (l : List UInt8) : 1 ≤ (pcs c l).length := by
  rcases first_of c l with h | ⟨p, q, rfl, hp⟩
  · rw [pcs_free c l h]; simp
  · rw [pcs_app c q p hp]; simp
/-- The library's cuts, at most k. -/
theorem splitK_pcs (c : UInt8) : ∀ (k : Nat) (l : List UInt8), ((pcs c l).length ≤ k + 1 → Go.Lib.splitK [c] 0 k l = pcs c l) ∧
    (k + 1 < (pcs c l).length → ∃ ps r, Go.Lib.splitK [c] 0 k l = ps ++ [r] ∧ ps.length = k ∧ c ∈ r)
  | 0, l => by
    rcases first_of c l with h | ⟨p, q, rfl, hp⟩
    · rw [pcs_free c l h]; exact ⟨fun _ => rfl, fun h => by simp at h⟩
    · rw [pcs_app c q p hp]
      have := pcs_pos c q
      exact ⟨fun h => by rw [List.length_cons] at h; omega, fun _ => ⟨[], _, rfl, rfl, by simp⟩⟩
  | k + 1, l => by
    rcases first_of c l with h | ⟨p, q, rfl, hp⟩
    · rw [pcs_free c l h]
      refine ⟨fun _ => ?_, fun h => by simp at h⟩
      rw [Go.Lib.splitK, if_pos (by rw [idx_free c l h]; rfl)]
    · obtain ⟨i1, i2⟩ := splitK_pcs c k q
      have e : Go.Lib.splitK [c] 0 (k + 1) (p ++ c :: q) = p :: Go.Lib.splitK [c] 0 k q := by
        rw [Go.Lib.splitK, if_neg (by rw [idx_app c q p hp, beq_iff_eq]; omega), idx_app c q p hp, Int.toNat_natCast, Nat.add_zero, List.take_left' rfl]
        congr 2
        rw [← List.drop_drop, List.drop_left' rfl]; rfl
      rw [pcs_app c q p hp, e]
      refine ⟨fun h => by rw [i1 (by rw [List.length_cons] at h; omega)], fun h => ?_⟩
      obtain ⟨ps, r, e1, e2, e3⟩ := i2 (by rw [List.length_cons] at h; omega)
      exact ⟨p :: ps, r, by rw [e1]; rfl, by rw [List.length_cons, e2], e3⟩
theorem pcs_count (c : UInt8) : ∀ (n : Nat) (l : List UInt8), l.length ≤ n → (pcs c l).length = Go.Lib.count l [c] + 1
  | n, l, hn => by
    rcases first_of c l with h | ⟨p, q, rfl, hp⟩
    · rw [pcs_free c l h, Go.Lib.count_miss (idx_free c l h)]; rfl
    · have e : (p ++ c :: q).drop (p.length + [c].length) = q := by rw [← List.drop_drop, List.drop_left' rfl]; rfl
      rw [pcs_app c q p hp, Go.Lib.count_hit (by simp) (idx_app c q p hp), e, List.length_cons]
      have hq : q.length < (p ++ c :: q).length := by simp; omega
      match n, hn with
      | 0, hn => omega
      | n + 1, hn => rw [pcs_count c n q (by omega)]; omega
/-- The pieces joined again. -/
theorem join_pcs (c : UInt8) : ∀ (n : Nat) (l : List UInt8), l.length ≤ n → Go.Lib.join (pcs c l) [c] = l
  | n, l, hn => by
    rcases first_of c l with h | ⟨p, q, rfl, hp⟩
    · rw [pcs_free c l h, Go.Lib.join_one]
    · rw [pcs_app c q p hp]
      have hq : q.length < (p ++ c :: q).length := by simp; omega
      match n, hn with
      | 0, hn => omega
      | n + 1, hn =>
        have ih := join_pcs c n q (by omega)
        have hne : pcs c q ≠ [] := fun e => by have := pcs_pos c q; rw [e] at this; simp at this
        obtain ⟨x, r, e⟩ := List.exists_cons_of_ne_nil hne
        rw [e] at ih ⊢
        rw [Go.Lib.join_cons] at ih ⊢
        rw [Go.Lib.joinTail, List.map_cons, List.flatten_cons]
        rw [Go.Lib.joinTail] at ih
        rw [List.append_assoc, ih]; rfl
theorem pcs_mem (c : UInt8) : ∀ (n : Nat) (l : List UInt8), l.length ≤ n → ∀ p ∈ pcs c l, c ∉ p ∧ p.length ≤ l.length
  | n, l, hn => by
    rcases first_of c l with h | ⟨p, q, rfl, hp⟩
    · rw [pcs_free c l h]; intro p hm; rw [List.mem_singleton.1 hm]; exact ⟨h, Nat.le_refl _⟩
    · rw [pcs_app c q p hp]
      have hq : q.length < (p ++ c :: q).length := by simp; omega
      match n, hn with
      | 0, hn => omega
      | n + 1, hn =>
        intro x hx
        rcases List.mem_cons.1 hx with rfl | hx
        · exact ⟨hp, by simp⟩
        · obtain ⟨h1, h2⟩ := pcs_mem c n q (by omega) x hx
          exact ⟨h1, by omega⟩
theorem pcs_len (c : UInt8) : ∀ (n : Nat) (l : List UInt8), l.length ≤ n → (pcs c l).length ≤ l.length + 1
  | n, l, hn => by
    rcases first_of c l with h | ⟨p, q, rfl, hp⟩
    · rw [pcs_free c l h]; simp
    · rw [pcs_app c q p hp]
      have hq : q.length < (p ++ c :: q).length := by simp; omega
      match n, hn with
      | 0, hn => omega
      | n + 1, hn => have := pcs_len c n q (by omega); rw [List.length_cons]; omega
/-- A text of its bytes. -/
def toB (l : List UInt8) : ByteArray := ⟨l.toArray⟩
theorem toB_data (s : ByteArray) : toB s.data.toList = s := by cases s; rfl
theorem data_toB (l : List UInt8) : (toB l).data.toList = l := rfl
theorem toB_size (l : List UInt8) : (toB l).size = l.length := by rw [Go.Lib.size_eq]; rfl
theorem ba_eq {a b : ByteArray} (h : a.data.toList = b.data.toList) : a = b := by rw [← toB_data a, ← toB_data b, h]
theorem map_toB (xs : List ByteArray) (ps : List (List UInt8)) (h : xs.map (·.data.toList) = ps) : xs = ps.map toB := by
  rw [← h, List.map_map]
  exact (List.map_id xs).symm.trans (List.map_congr_left fun x _ => (toB_data x).symm)
theorem extract_toB (s : ByteArray) (a b : Nat) : s.extract a b = toB ((s.data.toList.drop a).take (b - a)) := by
  refine ba_eq ?_
  rw [Go.Lib.extract_data, data_toB]
theorem splitB_pcs (c : UInt8) (s : ByteArray) : Go.Lib.splitB (toB [c]) 0 (Go.Lib.countB s (toB [c])) s = (pcs c s.data.toList).map toB := by
  refine map_toB _ _ ?_
  rw [Go.Lib.splitB_data]
  exact (splitK_pcs c _ _).1 (by rw [pcs_count c _ _ (Nat.le_refl _)]; exact Nat.le_refl _)

theorem itoa_inj (v w : Int) (hv : Sm v) (hw : Sm w) (he : Go.Lib.itoa v = Go.Lib.itoa w) : v = w := by
  have e1 := parse_itoa v hv
  rw [he, parse_itoa w hw] at e1
  exact (Go.Lib.NumEnd.ok.inj e1).symm
theorem itoas_inj : ∀ (vs ws : List Int), (∀ v ∈ vs, Sm v) → (∀ v ∈ ws, Sm v) → vs.map Go.Lib.itoa = ws.map Go.Lib.itoa → vs = ws
  | [], [], _, _, _ => rfl
  | [], _ :: _, _, _, h => by cases h
  | _ :: _, [], _, _, h => by cases h
  | v :: vs, w :: ws, h1, h2, h => by
    obtain ⟨e1, e2⟩ := List.cons.inj h
    rw [itoa_inj v w (h1 v (List.mem_cons_self ..)) (h2 w (List.mem_cons_self ..)) e1, itoas_inj vs ws (fun x hx => h1 x (List.mem_cons_of_mem _ hx)) (fun x hx => h2 x (List.mem_cons_of_mem _ hx)) e2]
theorem splitK_len (c : UInt8) : ∀ (k : Nat) (l : List UInt8), ∀ p ∈ Go.Lib.splitK [c] 0 k l, p.length ≤ l.length
  | 0, l, p, h => by
    rw [Go.Lib.splitK, List.mem_singleton] at h
    rw [h]; exact Nat.le_refl _
  | k + 1, l, p, h => by
    rw [Go.Lib.splitK] at h
    by_cases c1 : (Go.Lib.index l [c] == -1) = true
    · rw [if_pos c1, List.mem_singleton] at h
      rw [h]; exact Nat.le_refl _
    · rw [if_neg c1] at h
      rcases List.mem_cons.1 h with h | h
      · rw [h, List.length_take]; omega
      · have := splitK_len c k _ p h
        rw [List.length_drop] at this; omega
/-- What a number of the reference is: the value, where the text is a numeral of at most 18 digits. -/
theorem num_of (l : List UInt8) (hl : l.length ≤ 1048576) :
    (∃ v, Sm v ∧ Go.Lib.itoa v = l ∧ (∀ k, 40 ≤ k → spec_l01Number.f k (toB l) = some (v, true)) ∧ impl_ReadDecimal.f (toB l) = some (v, true)) ∨
    ((∀ v, Sm v → Go.Lib.itoa v ≠ l) ∧ (∀ k, 40 ≤ k → spec_l01Number.f k (toB l) = some (0, false)) ∧ impl_ReadDecimal.f (toB l) = some (0, false)) := by
  have hs : (toB l).size ≤ 140737488351232 := by rw [toB_size]; omega
  obtain ⟨h1, h2⟩ := readDec_eq (toB l) hs
  by_cases hx : ∃ v, Sm v ∧ Go.Lib.itoa v = l
  · obtain ⟨v, hv, he⟩ := hx
    refine .inl ⟨v, hv, he, fun k hk => ?_, h1 v hv he⟩
    rcases number_eq (toB l) hs k hk with ⟨w, hw, he', hf⟩ | ⟨hno, _⟩
    · rw [data_toB] at he'
      rw [hf, itoa_inj w v hw hv (he'.trans he.symm)]
    · exact absurd he (hno v hv)
  · refine .inr ⟨fun v hv he => hx ⟨v, hv, he⟩, fun k hk => ?_, h2 fun v hv he => hx ⟨v, hv, he⟩⟩
    rcases number_eq (toB l) hs k hk with ⟨w, hw, he', _⟩ | ⟨_, hf⟩
    · exact absurd ⟨w, hw, he'⟩ hx
    · exact hf
theorem itoa_bytes (v : Int) : ∀ c ∈ Go.Lib.itoa v, c = 45 ∨ isDig c := by
  intro c hc
  unfold Go.Lib.itoa at hc
  split at hc
  · rcases List.mem_cons.1 hc with h | h
    · exact .inl h
    · exact .inr (decDigits_dig _ c h)
  · exact .inr (decDigits_dig _ c hc)

theorem l00In_eq (a b c : Int) : spec_l00In.f a b c = some (decide (b ≤ a ∧ a ≤ c)) := by
  unfold spec_l00In.f
  by_cases h : a ≥ b <;> simp [h]

theorem within_eq (a b c : Int) : impl_within.f a b c = some (decide (b ≤ a ∧ a ≤ c)) := by
  unfold impl_within.f
  by_cases h : a ≥ b <;> simp [h]

theorem gcd_step (a b : Nat) : Nat.gcd b (a % b) = Nat.gcd a b := by
  rw [Nat.gcd_comm a b, Nat.gcd_rec b a, Nat.gcd_comm]
theorem l02Gcd_l0 (d : Nat) : ∀ (k a b : Nat), b ≤ d → d < k → spec_l02Gcd.l0 k (a : Int) (b : Int) = some (Nat.gcd a b : Int) := by
  induction d with
  | zero =>
    intro k a b hb hk
    obtain ⟨k, rfl⟩ : ∃ m, k = m + 1 := ⟨k - 1, by omega⟩
    obtain rfl : b = 0 := by omega
    simp [spec_l02Gcd.l0]
  | succ d ih =>
    intro k a b hb hk
    obtain ⟨k, rfl⟩ : ∃ m, k = m + 1 := ⟨k - 1, by omega⟩
    simp only [spec_l02Gcd.l0]
    by_cases h : (b : Int) = 0
    · rw [if_pos h]; obtain rfl : b = 0 := by omega
      simp
    · rw [if_neg h]
      have e : Int.tmod (a : Int) b = ((a % b : Nat) : Int) := rfl
      have hlt := Nat.mod_lt a (show b > 0 by omega)
      rw [e, ih k b (a % b) (by omega) (by omega), gcd_step]
theorem commonDivisor_l0 (d : Nat) : ∀ (k a b : Nat), b ≤ d → d < k → impl_commonDivisor.l0 k (a : Int) (b : Int) = some (Nat.gcd a b : Int) := by
  induction d with
  | zero =>
    intro k a b hb hk
    obtain ⟨k, rfl⟩ : ∃ m, k = m + 1 := ⟨k - 1, by omega⟩
    obtain rfl : b = 0 := by omega
    simp [impl_commonDivisor.l0]
  | succ d ih =>
    intro k a b hb hk
    obtain ⟨k, rfl⟩ : ∃ m, k = m + 1 := ⟨k - 1, by omega⟩
    simp only [impl_commonDivisor.l0]
    by_cases h : (b : Int) = 0
    · rw [if_pos h]; obtain rfl : b = 0 := by omega
      simp
    · rw [if_neg h]
      have e : Int.tmod (a : Int) b = ((a % b : Nat) : Int) := rfl
      have hlt := Nat.mod_lt a (show b > 0 by omega)
      rw [e, ih k b (a % b) (by omega) (by omega), gcd_step]
theorem l02Gcd_eq (k : Nat) (a b : Int) (ha : 0 ≤ a) (hb : 0 ≤ b) (hk : b.toNat < k) : spec_l02Gcd.f k a b = some (Nat.gcd a.toNat b.toNat : Int) := by
  unfold spec_l02Gcd.f
  have := l02Gcd_l0 b.toNat k a.toNat b.toNat (Nat.le_refl _) hk
  rwa [show ((a.toNat : Nat) : Int) = a by omega, show ((b.toNat : Nat) : Int) = b by omega] at this
theorem commonDivisor_eq (k : Nat) (a b : Int) (ha : 0 ≤ a) (hb : 0 ≤ b) (hk : b.toNat < k) : impl_commonDivisor.f k a b = some (Nat.gcd a.toNat b.toNat : Int) := by
  unfold impl_commonDivisor.f
  have := commonDivisor_l0 b.toNat k a.toNat b.toNat (Nat.le_refl _) hk
  rwa [show ((a.toNat : Nat) : Int) = a by omega, show ((b.toNat : Nat) : Int) = b by omega] at this
/-- Two numbers that are a valid ratio. -/
def RatOk (x y : Int) : Prop := (1 ≤ x ∧ x ≤ 1000000) ∧ (1 ≤ y ∧ y ≤ 1000000) ∧ Nat.gcd x.toNat y.toNat = 1
instance ratOkDec (x y : Int) : Decidable (RatOk x y) := by unfold RatOk; infer_instance
theorem one_beq (n : Nat) : (((n : Int) == 1) : Bool) = decide (n = 1) := by
  rw [Bool.eq_iff_iff, beq_iff_eq, decide_eq_true_iff]; omega

theorem l02Ok_eq (k : Nat) (x y : Int) (hk : 1000000 < k) : spec_l02Ok.f k x y = some (decide (RatOk x y)) := by
  unfold spec_l02Ok.f spec_l02Part.f
  rw [l00In_eq, l00In_eq]
  simp only [Option.bind_some]
  by_cases h1 : 1 ≤ x ∧ x ≤ 1000000
  · by_cases h2 : 1 ≤ y ∧ y ≤ 1000000
    · rw [l02Gcd_eq k x y (by omega) (by omega) (by omega)]
      simp only [Option.bind_some, decide_eq_true h1, decide_eq_true h2, if_true]
      rw [one_beq]; congr 1; simp [RatOk, h1, h2]
    · simp [h1, h2, RatOk]
  · simp [h1, RatOk]

theorem ValidRatio_eq (k : Nat) (x y : Int) (hk : 1000000 < k) : impl_ValidRatio.f k x y = some (decide (RatOk x y)) := by
  unfold impl_ValidRatio.f
  rw [within_eq, within_eq]
  simp only [Option.bind_some]
  by_cases h1 : 1 ≤ x ∧ x ≤ 1000000
  · by_cases h2 : 1 ≤ y ∧ y ≤ 1000000
    · rw [commonDivisor_eq k x y (by omega) (by omega) (by omega)]
      simp only [Option.bind_some, decide_eq_true h1, decide_eq_true h2, if_true]
      rw [one_beq]; congr 1; simp [RatOk, h1, h2]
    · simp [h1, h2, RatOk]
  · simp [h1, RatOk]


/-- A ratio's text. -/
def ratText (a b : Int) : ByteArray := ((⟨(Go.Lib.itoa a).toArray⟩ : ByteArray) ++ (⟨#[47]⟩ : ByteArray)) ++ ⟨(Go.Lib.itoa b).toArray⟩
theorem ratText_data (a b : Int) : (ratText a b).data.toList = Go.Lib.itoa a ++ 47 :: Go.Lib.itoa b := by
  unfold ratText
  simp [ByteArray.data_append]
theorem RatioText_eq2 (k : Nat) (a b : Int) (hk : 1000000 < k) : impl_RatioText.f k a b = some (if RatOk a b then ratText a b else ⟨#[]⟩) := by
  unfold impl_RatioText.f
  rw [ValidRatio_eq k a b hk, Option.bind_some]
  by_cases h : RatOk a b
  · have ha : -9223372036854775808 ≤ a ∧ a ≤ 9223372036854775807 := by have := h.1; omega
    have hb : -9223372036854775808 ≤ b ∧ b ≤ 9223372036854775807 := by have := h.2.1; omega
    have z1 := itoa_size2 a ha
    have z2 := itoa_size2 b hb
    have zs : (⟨#[47]⟩ : ByteArray).size = 1 := rfl
    have h1 : (⟨(Go.Lib.itoa a).toArray⟩ : ByteArray).size + 1 ≤ 9223372036854775807 := by omega
    have h2 : ((⟨(Go.Lib.itoa a).toArray⟩ : ByteArray) ++ (⟨#[47]⟩ : ByteArray)).size + (⟨(Go.Lib.itoa b).toArray⟩ : ByteArray).size ≤ 9223372036854775807 := by rw [ByteArray.size_append, zs]; omega
    rw [decide_eq_true h, if_pos rfl, Decimal_it a ha, Option.bind_some, if_pos h1, Decimal_it b hb, Option.bind_some, if_pos h2, if_pos h]; rfl
  · rw [decide_eq_false h, if_neg (by simp), if_neg h]

/-- The reference's pieces. -/
theorem split_l0 (s : ByteArray) (c : UInt8) (hs : s.size ≤ 1048576) (d : Nat) : ∀ (k i a : Nat) (acc : List ByteArray), s.data.toList.length = i + d → d < k → a ≤ i → acc.length ≤ i → c ∉ (s.data.toList.drop a).take (i - a) →
    spec_l01Split.l0 k s (c.toNat : Int) acc a i = some (acc ++ (pcs c (s.data.toList.drop a)).map toB) := by
  have hz := Go.Lib.size_eq s
  induction d with
  | zero =>
    intro k i a acc hd hk ha hacc hf
    obtain ⟨k, rfl⟩ : ∃ m, k = m + 1 := ⟨k - 1, by omega⟩
    have e1 : ¬ (i : Int) < (s.size : Int) := by omega
    have e2 : 0 ≤ (a : Int) := by omega
    have e3 : (a : Int) ≤ (s.size : Int) := by omega
    have e4 : acc.length < 8796093022208 := by omega
    rw [List.take_of_length_le (by rw [List.length_drop]; omega)] at hf
    simp only [spec_l01Split.l0]
    rw [if_neg e1, if_pos e2, if_pos e3, if_pos e4, Int.toNat_natCast, extract_toB, pcs_free c _ hf, List.take_of_length_le (by rw [List.length_drop]; omega)]
    rfl
  | succ d ih =>
    intro k i a acc hd hk ha hacc hf
    obtain ⟨k, rfl⟩ : ∃ m, k = m + 1 := ⟨k - 1, by omega⟩
    have hi : i < s.data.toList.length := by omega
    have e1 : (i : Int) < (s.size : Int) := by omega
    have e2 : 0 ≤ (i : Int) := by omega
    have e3 : 0 ≤ (a : Int) := by omega
    have e4 : (a : Int) ≤ (i : Int) := by omega
    have e5 : (i : Int) ≤ (s.size : Int) := by omega
    have e6 : acc.length < 8796093022208 := by omega
    have ew : wrap64 ((i : Int) + 1) = ((i + 1 : Nat) : Int) := by rw [wr (n := (i : Int) + 1) (by omega)]; omega
    have eb := bt_get s i hi
    have edrop : (s.data.toList.drop a).drop (i - a) = s.data.toList[i] :: s.data.toList.drop (i + 1) := by
      rw [List.drop_drop, show a + (i - a) = i by omega, List.drop_eq_getElem_cons hi]
    have esplit : s.data.toList.drop a = (s.data.toList.drop a).take (i - a) ++ s.data.toList[i] :: s.data.toList.drop (i + 1) := by rw [← edrop, List.take_append_drop]
    simp only [spec_l01Split.l0]
    rw [if_pos e1, if_pos e2, eb, ew]
    by_cases hc : s.data.toList[i] = c
    · rw [if_pos (by rw [hc]), if_pos e3, if_pos e4, if_pos e5, if_pos e6]
      have h1 := ih k (i + 1) (i + 1) (acc ++ [s.extract (a : Int).toNat (i : Int).toNat]) (by omega) (by omega) (Nat.le_refl _) (by simp; omega) (by rw [Nat.sub_self]; simp)
      rw [h1]
      conv => rhs; rw [esplit]
      rw [hc, pcs_app c _ _ hf, Int.toNat_natCast, Int.toNat_natCast, extract_toB, List.map_cons, List.append_assoc]; rfl
    · rw [if_neg (by intro h; exact hc (UInt8.toNat_inj.1 (by omega)))]
      refine ih k (i + 1) a acc (by omega) (by omega) (by omega) (by omega) ?_
      have e7 : (s.data.toList.drop a).take (i + 1 - a) = (s.data.toList.drop a).take (i - a) ++ [s.data.toList[i]] := by
        rw [show i + 1 - a = (i - a) + 1 by omega, List.take_succ_eq_append_getElem (by rw [List.length_drop]; omega)]
        congr 2
        rw [List.getElem_drop]
        congr 1; omega
      rw [e7]
      intro hm
      rcases List.mem_append.1 hm with h | h
      · exact hf h
      · exact hc (List.mem_singleton.1 h).symm
theorem split_eq (s : ByteArray) (c : UInt8) (n : Int) (hn : n = (c.toNat : Int)) (hs : s.size ≤ 1048576) (k : Nat) (hk : 1048578 < k) : spec_l01Split.f k s n = some ((pcs c s.data.toList).map toB) := by
  have hz := Go.Lib.size_eq s
  unfold spec_l01Split.f
  subst hn
  have := split_l0 s c hs s.data.toList.length k 0 0 [] (by omega) (by omega) (Nat.le_refl _) (by simp) (by simp)
  rw [List.drop_zero, List.nil_append] at this
  exact this

theorem cut_free (c : UInt8) (s : ByteArray) (h : c ∉ s.data.toList) (hs : s.size < 4294967281) : strings_Cut.f s (toB [c]) = some (s, toB [], false) := by
  unfold strings_Cut.f
  rw [if_pos hs, data_toB]
  unfold Go.Lib.cut
  rw [idx_free c _ h, if_neg (by omega)]
  rfl
theorem cut_app (c : UInt8) (s : ByteArray) (p q : List UInt8) (e : s.data.toList = p ++ c :: q) (h : c ∉ p) (hs : s.size < 4294967281) : strings_Cut.f s (toB [c]) = some (toB p, toB q, true) := by
  unfold strings_Cut.f
  rw [if_pos hs, data_toB]
  unfold Go.Lib.cut
  rw [e, idx_app c q p h, if_pos (by omega), Int.toNat_natCast, List.take_left' rfl]
  have e2 : (p ++ c :: q).drop (p.length + [c].length) = q := by rw [← List.drop_drop, List.drop_left' rfl]; rfl
  rw [e2]; rfl
/-- A ratio's text gives the ratio; nothing else gives one. -/
theorem readRat_eq (s : ByteArray) (hs : s.size ≤ 1048576) : ∃ r : Int × Int × Bool, (r.2.2 = true → RatOk r.1 r.2.1 ∧ s = ratText r.1 r.2.1) ∧ (r.2.2 = false → r = (0, 0, false)) ∧
    ∀ k, 10000000 < k → spec_l02Read.f k s = some r ∧ impl_ReadRatio.f k s = some r := by
  have hz := Go.Lib.size_eq s
  have es : (⟨#[47]⟩ : ByteArray) = toB [47] := rfl
  have e0 : impl_ReadDecimal.f (toB []) = some (0, false) := by
    rcases num_of [] (by simp) with ⟨v, _, he, _, _⟩ | ⟨_, _, h⟩
    · exact absurd he (itoa_ne_nil v)
    · exact h
  rcases first_of 47 s.data.toList with h | ⟨p, q, e, hp⟩
  · refine ⟨(0, 0, false), fun h => (by cases h), fun _ => rfl, fun k hk => ⟨?_, ?_⟩⟩
    · unfold spec_l02Read.f
      rw [split_eq s 47 47 rfl hs k (by omega), Option.bind_some, pcs_free 47 _ h]
      rfl
    · unfold impl_ReadRatio.f
      rw [es, cut_free 47 s h (by omega)]
      simp only [Option.bind_some]
      rw [e0]
      obtain ⟨h1, h2⟩ := readDec_eq s (by omega)
      by_cases hx : ∃ v, Sm v ∧ Go.Lib.itoa v = s.data.toList
      · obtain ⟨v, hv, he⟩ := hx
        rw [h1 v hv he]; simp
      · rw [h2 fun v hv he => hx ⟨v, hv, he⟩]; simp
  · have hpl : p.length ≤ 1048576 := by rw [hz, e] at hs; simp at hs; omega
    have hql : q.length ≤ 1048576 := by rw [hz, e] at hs; simp at hs; omega
    have esp : ∀ k, 10000000 < k → spec_l01Split.f k s 47 = some ((p :: pcs 47 q).map toB) := by
      intro k hk
      rw [split_eq s 47 47 rfl hs k (by omega), e, pcs_app 47 q p hp]
    have ecut := cut_app 47 s p q e hp (by omega)
    have hslash : ∀ v, (47 : UInt8) ∉ Go.Lib.itoa v := by
      intro v hm
      rcases itoa_bytes v 47 hm with h | h
      · exact absurd h (by decide)
      · unfold isDig at h; exact absurd h (by decide)
    have bad : (∀ k, 10000000 < k → spec_l02Read.f k s = some (0, 0, false)) → (∀ k, 10000000 < k → impl_ReadRatio.f k s = some (0, 0, false)) → ∃ r : Int × Int × Bool, (r.2.2 = true → RatOk r.1 r.2.1 ∧ s = ratText r.1 r.2.1) ∧ (r.2.2 = false → r = (0, 0, false)) ∧
        ∀ k, 10000000 < k → spec_l02Read.f k s = some r ∧ impl_ReadRatio.f k s = some r := fun h1 h2 => ⟨(0, 0, false), fun h => (by cases h), fun _ => rfl, fun k hk => ⟨h1 k hk, h2 k hk⟩⟩
    rcases first_of 47 q with hq | ⟨p2, q2, e2, hp2⟩
    · have esp2 : ∀ k, 10000000 < k → spec_l01Split.f k s 47 = some [toB p, toB q] := by
        intro k hk; rw [esp k hk, pcs_free 47 q hq]; rfl
      have r0 : rdOf ByteArray.empty [toB p, toB q] 0 = toB p := rfl
      have r1 : rdOf ByteArray.empty [toB p, toB q] 1 = toB q := rfl
      have l2 : (([toB p, toB q] : List ByteArray).length : Int) = 2 := rfl
      rcases num_of p hpl with ⟨n, hn, hen, fn, gn⟩ | ⟨_, fn, gn⟩
      · rcases num_of q hql with ⟨d, hd, hed, fd, gd⟩ | ⟨_, fd, gd⟩
        · by_cases hr : RatOk n d
          · refine ⟨(n, d, true), fun _ => ⟨hr, ?_⟩, fun h => (by cases h), fun k hk => ⟨?_, ?_⟩⟩
            · refine ba_eq ?_
              rw [ratText_data, e, hen, hed]
            · unfold spec_l02Read.f
              rw [esp2 k hk, Option.bind_some, l2, r0, r1, fn k (by omega), fd k (by omega)]
              simp only [Option.bind_some]
              rw [l02Ok_eq k n d (by omega), decide_eq_true hr]; rfl
            · unfold impl_ReadRatio.f
              rw [es, ecut]
              simp only [Option.bind_some]
              rw [gn, gd]
              simp only [Option.bind_some, if_true]
              rw [RatioText_eq2 k n d (by omega), if_pos hr, Option.bind_some, if_pos ?_]
              rw [Go.ByteArray.toList_eq, Go.ByteArray.toList_eq, ratText_data, e, hen, hed]
          · refine bad (fun k hk => ?_) (fun k hk => ?_)
            · unfold spec_l02Read.f
              rw [esp2 k hk, Option.bind_some, l2, r0, r1, fn k (by omega), fd k (by omega)]
              simp only [Option.bind_some]
              rw [l02Ok_eq k n d (by omega), decide_eq_false hr]; rfl
            · unfold impl_ReadRatio.f
              rw [es, ecut]
              simp only [Option.bind_some]
              rw [gn, gd]
              simp only [Option.bind_some, if_true]
              rw [RatioText_eq2 k n d (by omega), if_neg hr, Option.bind_some, if_neg ?_]
              rw [Go.ByteArray.toList_eq, Go.ByteArray.toList_eq, e]
              intro h
              have := congrArg List.length h
              simp at this
        · refine bad (fun k hk => ?_) (fun k hk => ?_)
          · unfold spec_l02Read.f
            rw [esp2 k hk, Option.bind_some, l2, r0, r1, fn k (by omega), fd k (by omega)]
            rfl
          · unfold impl_ReadRatio.f
            rw [es, ecut]
            simp only [Option.bind_some]
            rw [gn, gd]; rfl
      · refine bad (fun k hk => ?_) (fun k hk => ?_)
        · unfold spec_l02Read.f
          rw [esp2 k hk, Option.bind_some, l2, r0, r1, fn k (by omega)]
          rcases num_of q hql with ⟨d, hd, hed, fd, gd⟩ | ⟨_, fd, gd⟩ <;> (rw [fd k (by omega)]; rfl)
        · unfold impl_ReadRatio.f
          rw [es, ecut]
          simp only [Option.bind_some]
          rw [gn]
          rcases num_of q hql with ⟨d, hd, hed, fd, gd⟩ | ⟨_, fd, gd⟩ <;> (rw [gd]; rfl)
    · refine bad (fun k hk => ?_) (fun k hk => ?_)
      · unfold spec_l02Read.f
        rw [esp k hk, Option.bind_some, e2, pcs_app 47 q2 p2 hp2, if_neg ?_]
        have := pcs_pos 47 q2
        rw [List.length_map, List.length_cons, List.length_cons]; omega
      · unfold impl_ReadRatio.f
        rw [es, ecut]
        simp only [Option.bind_some]
        have gq : impl_ReadDecimal.f (toB q) = some (0, false) := by
          rcases num_of q hql with ⟨d, hd, hed, _, _⟩ | ⟨_, _, gd⟩
          · exfalso; exact hslash d (by rw [hed, e2]; simp)
          · exact gd
        rw [gq]
        rcases num_of p hpl with ⟨d, hd, hed, fd, gd⟩ | ⟨_, fd, gd⟩ <;> (rw [gd]; rfl)

theorem rdT_lt (l : List S23) (j : Nat) (h : j < l.length) : rd_T23 l j = l[j] := by
  unfold rd_T23; rw [Int.toNat_natCast, List.getD_eq_getElem?_getD, List.getElem?_eq_getElem h]; rfl
theorem eqRatioS_l0 (l : List S23) (hl : l.length ≤ 1048576) (d : Nat) : ∀ (k i : Nat), l.length = i + d → d < k → laws_eqRatioS.l0 k l l i = some true := by
  induction d with
  | zero =>
    intro k i hd hk
    obtain ⟨k, rfl⟩ : ∃ m, k = m + 1 := ⟨k - 1, by omega⟩
    simp only [laws_eqRatioS.l0]; rw [if_neg (by omega)]
  | succ d ih =>
    intro k i hd hk
    obtain ⟨k, rfl⟩ : ∃ m, k = m + 1 := ⟨k - 1, by omega⟩
    simp only [laws_eqRatioS.l0, laws_eqRatio.f]
    rw [if_pos (by omega), if_pos (by omega), if_pos (by omega)]
    simp only [if_true, Option.bind_some]
    rw [wr (n := (i : Int) + 1) (by omega), show ((i : Int) + 1) = ((i + 1 : Nat) : Int) by omega]
    exact ih k (i + 1) (by omega) (by omega)
theorem eqRatioS_self (k : Nat) (l : List S23) (hl : l.length ≤ 1048576) (hk : l.length < k) : laws_eqRatioS.f k l l = some true := by
  unfold laws_eqRatioS.f; rw [if_pos rfl]; exact eqRatioS_l0 l hl l.length k 0 (by omega) hk
theorem eqTuning_self (k : Nat) (a : ByteArray) (l : List S23) (hl : l.length ≤ 1048576) (hk : l.length < k) : laws_eqTuning.f k a l a l = some true := by
  unfold laws_eqTuning.f; rw [if_pos rfl, eqRatioS_self k l hl hk]; rfl

theorem bt_range (s : ByteArray) (i : Int) : 0 ≤ bt s i ∧ bt s i < 256 := by
  unfold bt
  split
  · constructor
    · omega
    · have := (s[i.toNat]'(by assumption)).toNat_lt; omega
  · omega

theorem bytes_nil (s : ByteArray) : s.toList = ([] : List UInt8) ↔ s.size = 0 := by
  rw [Go.ByteArray.toList_eq]
  have : s.data.toList.length = s.size := by cases s; rfl
  constructor
  · intro h; rw [h] at this; simpa using this.symm
  · intro h; exact List.length_eq_zero_iff.1 (by omega)

/-- A byte that a name may bear. -/
def nameB (c : Int) : Prop := (97 ≤ c ∧ c ≤ 122) ∨ (48 ≤ c ∧ c ≤ 57)
/-- A text that is a name. -/
def nameOk (s : ByteArray) : Prop := 1 ≤ s.size ∧ s.size ≤ 10 ∧ (97 ≤ bt s 0 ∧ bt s 0 ≤ 122) ∧ ∀ j : Nat, j < s.size → nameB (bt s j)

instance nameBDec (c : Int) : Decidable (nameB c) := by unfold nameB; infer_instance
instance nameOkDec (s : ByteArray) : Decidable (nameOk s) := by unfold nameOk; infer_instance
theorem small_eq (c : Int) : spec_l01Small.f c = some (decide (97 ≤ c ∧ c ≤ 122)) := by
  unfold spec_l01Small.f
  by_cases h : c ≥ 97 <;> simp [h]
theorem digit_eq (c : Int) : spec_l01Digit.f c = some (decide (48 ≤ c ∧ c ≤ 57)) := by
  unfold spec_l01Digit.f
  by_cases h : c ≥ 48 <;> simp [h]

theorem name_l0 (s : ByteArray) (hs : s.size ≤ 10) (d : Nat) : ∀ (k i : Nat), s.size = i + d → d < k →
    ∃ b, spec_l01Name.l0 k s i = some b ∧ (b = true ↔ ∀ j : Nat, i ≤ j → j < s.size → nameB (bt s j)) := by
  induction d with
  | zero =>
    intro k i hd hk
    obtain ⟨k, rfl⟩ : ∃ m, k = m + 1 := ⟨k - 1, by omega⟩
    exact ⟨true, by simp only [spec_l01Name.l0]; rw [if_neg (by omega)], by simp; intro j h1 h2; omega⟩
  | succ d ih =>
    intro k i hd hk
    obtain ⟨k, rfl⟩ : ∃ m, k = m + 1 := ⟨k - 1, by omega⟩
    simp only [spec_l01Name.l0]
    rw [if_pos (by omega), if_pos (by omega), small_eq, digit_eq, Option.bind_some, Option.bind_some, wr (n := (i : Int) + 1) (by omega)]
    obtain ⟨b, hb, hiff⟩ := ih k (i + 1) (by omega) (by omega)
    have hb' : spec_l01Name.l0 k s ((i : Int) + 1) = some b := by simpa using hb
    rw [hb']
    by_cases hc : nameB (bt s i)
    · refine ⟨b, ?_, ?_⟩
      · unfold nameB at hc
        rcases hc with hc | hc
        · simp [hc]
        · simp [hc]
      · rw [hiff]
        constructor
        · intro h j h1 h2
          by_cases e : j = i
          · subst e; exact hc
          · exact h j (by omega) h2
        · intro h j h1 h2; exact h j (by omega) h2
    · refine ⟨false, ?_, ?_⟩
      · unfold nameB at hc
        have c1 : ¬ (97 ≤ bt s i ∧ bt s i ≤ 122) := fun h => hc (Or.inl h)
        have c2 : ¬ (48 ≤ bt s i ∧ bt s i ≤ 57) := fun h => hc (Or.inr h)
        simp [c1, c2]
      · simp; exact ⟨i, by omega, by omega, hc⟩

theorem onlyName_l0 (s : ByteArray) (hs : s.size ≤ 10) (d : Nat) : ∀ (k i : Nat), s.size = i + d → d < k →
    ∃ b, impl_onlyNameBytes.l0 k s s.size i = some b ∧ (b = true ↔ ∀ j : Nat, i ≤ j → j < s.size → nameB (bt s j)) := by
  induction d with
  | zero =>
    intro k i hd hk
    obtain ⟨k, rfl⟩ : ∃ m, k = m + 1 := ⟨k - 1, by omega⟩
    exact ⟨true, by simp only [impl_onlyNameBytes.l0]; rw [if_neg (by omega)], by simp; intro j h1 h2; omega⟩
  | succ d ih =>
    intro k i hd hk
    obtain ⟨k, rfl⟩ : ∃ m, k = m + 1 := ⟨k - 1, by omega⟩
    simp only [impl_onlyNameBytes.l0]
    rw [if_pos (by omega), if_pos (by omega), if_pos (by omega), wr (n := (i : Int) + 1) (by omega)]
    obtain ⟨b, hb, hiff⟩ := ih k (i + 1) (by omega) (by omega)
    have hb' : impl_onlyNameBytes.l0 k s s.size ((i : Int) + 1) = some b := by simpa using hb
    rw [hb']
    by_cases hc : nameB (bt s i)
    · refine ⟨b, ?_, ?_⟩
      · unfold nameB at hc
        rcases hc with hc | hc
        · rw [if_neg (by omega), if_neg (by omega)]
        · rw [if_pos (by omega), if_neg (by omega), if_neg (by omega)]
      · rw [hiff]
        constructor
        · intro h j h1 h2
          by_cases e : j = i
          · subst e; exact hc
          · exact h j (by omega) h2
        · intro h j h1 h2; exact h j (by omega) h2
    · refine ⟨false, ?_, ?_⟩
      · unfold nameB at hc
        have c1 : ¬ (97 ≤ bt s i ∧ bt s i ≤ 122) := fun h => hc (Or.inl h)
        have c2 : ¬ (48 ≤ bt s i ∧ bt s i ≤ 57) := fun h => hc (Or.inr h)
        by_cases c3 : bt s i < 97
        · rw [if_pos c3]
          by_cases c4 : bt s i < 48
          · rw [if_pos c4]
          · rw [if_neg c4, if_pos (by omega)]
        · rw [if_neg c3, if_pos (by omega), if_neg (by omega), if_pos (by omega)]
      · simp; exact ⟨i, by omega, by omega, hc⟩

theorem l01Name_eq (k : Nat) (s : ByteArray) (hk : 20 < k) : spec_l01Name.f k s = some (decide (nameOk s)) := by
  have hj : ∀ (b : Bool), s.size ≤ 10 → ∃ r, spec_l01Name.j0 k s b = some r ∧ (r = true ↔ (b = false ∧ ∀ j : Nat, j < s.size → nameB (bt s j))) := by
    intro b hs
    obtain ⟨k, rfl⟩ : ∃ m, k = m + 1 := ⟨k - 1, by omega⟩
    obtain ⟨r, hr, hiff⟩ := name_l0 s hs s.size k 0 (by omega) (by omega)
    simp only [spec_l01Name.j0]
    cases b
    · exact ⟨r, by simpa using hr, by rw [hiff]; simp⟩
    · exact ⟨false, by simp, by simp⟩
  unfold spec_l01Name.f
  by_cases h0 : s.size = 0
  · rw [if_pos ((bytes_nil s).2 h0)]
    obtain ⟨r, hr, hiff⟩ := hj true (by omega)
    rw [hr]; congr 1; rw [Bool.eq_iff_iff, hiff]; simp [nameOk, h0]
  · rw [if_neg (fun h => h0 ((bytes_nil s).1 h))]
    by_cases h1 : (s.size : Int) > 10
    · rw [if_pos h1]
      obtain ⟨k, rfl⟩ : ∃ m, k = m + 1 := ⟨k - 1, by omega⟩
      simp only [spec_l01Name.j0]
      simp only [if_true]; congr 1; symm; rw [decide_eq_false_iff_not]; unfold nameOk; omega
    · rw [if_neg h1, if_pos (by omega), small_eq, Option.bind_some]
      obtain ⟨r, hr, hiff⟩ := hj (!decide (97 ≤ bt s 0 ∧ bt s 0 ≤ 122)) (by omega)
      rw [hr]; congr 1; rw [Bool.eq_iff_iff, hiff, decide_eq_true_iff]; unfold nameOk
      constructor
      · rintro ⟨a, b⟩; exact ⟨by omega, by omega, by simpa using a, b⟩
      · rintro ⟨a, b, c, d⟩; exact ⟨by simpa using c, d⟩

theorem IsName_eq (k : Nat) (s : ByteArray) (hk : 20 < k) : impl_IsName.f k s = some (decide (nameOk s)) := by
  unfold impl_IsName.f
  by_cases h0 : (s.size : Int) < 1
  · rw [if_pos h0]; congr 1; symm; rw [decide_eq_false_iff_not]; unfold nameOk; omega
  · rw [if_neg h0]
    by_cases h1 : (s.size : Int) > 10
    · rw [if_pos h1]; congr 1; symm; rw [decide_eq_false_iff_not]; unfold nameOk; omega
    · rw [if_neg h1, if_pos (by omega)]
      by_cases h2 : bt s 0 < 97
      · rw [if_pos h2]; congr 1; symm; rw [decide_eq_false_iff_not]; unfold nameOk; omega
      · rw [if_neg h2]
        by_cases h3 : bt s 0 > 122
        · rw [if_pos h3]; congr 1; symm; rw [decide_eq_false_iff_not]; unfold nameOk; omega
        · rw [if_neg h3]
          unfold impl_onlyNameBytes.f
          obtain ⟨r, hr, hiff⟩ := onlyName_l0 s (by omega) s.size k 0 (by omega) (by omega)
          have hr' : impl_onlyNameBytes.l0 k s s.size 0 = some r := by simpa using hr
          rw [hr', Option.bind_some]; congr 1; rw [Bool.eq_iff_iff, hiff, decide_eq_true_iff]; unfold nameOk
          constructor
          · intro a; exact ⟨by omega, by omega, by omega, fun j h => a j (by omega) h⟩
          · rintro ⟨a, b, c, d⟩ j _ h; exact d j h

theorem cmpT_eq (a b : Int) : cmp_Compare_int64.f a b = some (if a < b then -1 else if a > b then 1 else 0) := by
  unfold cmp_Compare_int64.f cmp_isNaN_int64.f
  simp only [Option.bind_some, bne_self_eq_false, Bool.false_eq_true, if_false]
  split
  · rfl
  · split <;> rfl
theorem sgn_eq (a b c d : Int) : ∃ u v, spec_l02Compare.f a b c d = some v ∧ impl_Ratio_compare.f c d a b = some u ∧ (v ≥ 0 ↔ u ≤ 0) := by
  unfold spec_l02Compare.f impl_Ratio_compare.f
  rw [cmpT_eq]
  generalize wrap64 (a * d) = x
  generalize wrap64 (c * b) = y
  simp only [Option.bind_some]
  by_cases h1 : x < y
  · refine ⟨_, _, by rw [if_pos h1], rfl, ?_⟩
    have h2 : ¬ y < x := by omega
    rw [if_neg h2, if_pos h1]; decide
  · by_cases h2 : x > y
    · refine ⟨_, _, by rw [if_neg h1, if_pos h2], rfl, ?_⟩
      have h3 : y < x := h2
      rw [if_pos h3]; decide
    · refine ⟨_, _, by rw [if_neg h1, if_neg h2], rfl, ?_⟩
      have h3 : ¬ y < x := h2
      have h4 : ¬ y > x := by omega
      rw [if_neg h3, if_neg h4]
def ElOk (p : S23) : Prop := RatOk p.f0 p.f1 ∧ p.f0 < 2 * p.f1
theorem tun_l0 (a : ByteArray) (l : List S23) (hl : l.length = 12) (o : Bool) (ho : ((if (rd_T23 l 0).f0 = 1 then some ((rd_T23 l 0).f1 == 1) else some false) : Option Bool) = some o) (d : Nat) : ∀ (i : Nat), l.length = i + d →
    ∃ r : Bool, (∀ k, 1000001 + d < k → spec_l04Ok.l0 k l i = some (r && o) ∧ impl_ValidTuning.l0 k l l.length i a l = some r) ∧ (r = true → ∀ j : Nat, i ≤ j → j < l.length → ElOk (rd_T23 l j)) := by
  induction d with
  | zero =>
    intro i hd
    refine ⟨true, fun k hk => ?_, fun _ j h1 h2 => by omega⟩
    obtain ⟨k, rfl⟩ : ∃ m, k = m + 1 := ⟨k - 1, by omega⟩
    have e : ¬ (i : Int) < (l.length : Int) := by omega
    have e1 : 0 < (l.length : Int) := by omega
    simp only [spec_l04Ok.l0, impl_ValidTuning.l0]
    rw [if_neg e, if_neg e, if_pos e1, ho]; exact ⟨by rw [Bool.true_and], rfl⟩
  | succ d ih =>
    intro i hd
    have e : (i : Int) < (l.length : Int) := by omega
    have e0 : 0 ≤ (i : Int) := by omega
    have ew : wrap64 ((i : Int) + 1) = ((i + 1 : Nat) : Int) := by rw [wr (n := (i : Int) + 1) (by omega)]; omega
    generalize hp : rd_T23 l (i : Int) = p
    have fin : ∀ (hbad : ∀ k, 1000001 < k → spec_l04Ok.l0 (k + 1) l i = some false ∧ impl_ValidTuning.l0 (k + 1) l l.length i a l = some false),
        ∃ r : Bool, (∀ k, 1000001 + (d + 1) < k → spec_l04Ok.l0 k l i = some (r && o) ∧ impl_ValidTuning.l0 k l l.length i a l = some r) ∧ (r = true → ∀ j : Nat, i ≤ j → j < l.length → ElOk (rd_T23 l j)) := fun hbad => by
      refine ⟨false, fun k hk => ?_, fun h => by simp at h⟩
      obtain ⟨k, rfl⟩ : ∃ m, k = m + 1 := ⟨k - 1, by omega⟩
      rw [Bool.false_and]; exact hbad k (by omega)
    by_cases c1 : RatOk p.f0 p.f1
    · have hm : wrap64 (2 * p.f1) = 2 * p.f1 := by have := c1.2.1; exact wr (by omega)
      by_cases c2 : p.f0 ≥ 2 * p.f1
      · apply fin
        intro k hk
        simp only [spec_l04Ok.l0, impl_ValidTuning.l0, hp, l02Ok_eq k p.f0 p.f1 (by omega), ValidRatio_eq k p.f0 p.f1 (by omega), Option.bind_some, decide_eq_true c1, if_true, hm]
        rw [if_pos e, if_pos e0, if_pos c2, if_pos e, if_pos e0, if_pos e, if_pos c2]; exact ⟨rfl, rfl⟩
      · obtain ⟨r, h1, h2⟩ := ih (i + 1) (by omega)
        have hel : ElOk p := ⟨c1, by omega⟩
        by_cases c3 : (i : Int) > 0
        · have wj : wrap64 ((i : Int) - 1) = (i : Int) - 1 := wr (by omega)
          have j0 : 0 ≤ (i : Int) - 1 := by omega
          have j1 : (i : Int) - 1 < (l.length : Int) := by omega
          generalize hq : rd_T23 l ((i : Int) - 1) = q
          obtain ⟨u, v, s1, s2, s3⟩ := sgn_eq q.f0 q.f1 p.f0 p.f1
          by_cases c4 : v ≥ 0
          · have c5 := s3.1 c4
            apply fin
            intro k hk
            simp only [spec_l04Ok.l0, impl_ValidTuning.l0, wj, hp, hq, s1, s2, l02Ok_eq k p.f0 p.f1 (by omega), ValidRatio_eq k p.f0 p.f1 (by omega), Option.bind_some, decide_eq_true c1, if_true, hm]
            rw [if_pos e, if_pos e0, if_neg c2, if_pos c3, if_pos j0, if_pos j1, if_pos c4, if_pos e, if_pos e0, if_pos e, if_neg c2, if_pos c3, if_pos j0, if_pos j1, if_pos c5]; exact ⟨rfl, rfl⟩
          · have c5 : ¬ u ≤ 0 := fun h => c4 (s3.2 h)
            refine ⟨r, fun k hk => ?_, fun ho j q1 q2 => ?_⟩
            · obtain ⟨k, rfl⟩ : ∃ m, k = m + 1 := ⟨k - 1, by omega⟩
              simp only [spec_l04Ok.l0, impl_ValidTuning.l0, wj, hp, hq, s1, s2, l02Ok_eq k p.f0 p.f1 (by omega), ValidRatio_eq k p.f0 p.f1 (by omega), Option.bind_some, decide_eq_true c1, if_true, hm, ew, (h1 k (by omega)).1, (h1 k (by omega)).2]
              rw [if_pos e, if_pos e0, if_neg c2, if_pos c3, if_pos j0, if_pos j1, if_neg c4, if_pos e, if_pos e0, if_pos e, if_neg c2, if_pos c3, if_pos j0, if_pos j1, if_neg c5]; exact ⟨rfl, rfl⟩
            · by_cases z : j = i
              · subst z; rw [hp]; exact hel
              · exact h2 ho j (by omega) q2
        · refine ⟨r, fun k hk => ?_, fun ho j q1 q2 => ?_⟩
          · obtain ⟨k, rfl⟩ : ∃ m, k = m + 1 := ⟨k - 1, by omega⟩
            simp only [spec_l04Ok.l0, impl_ValidTuning.l0, hp, l02Ok_eq k p.f0 p.f1 (by omega), ValidRatio_eq k p.f0 p.f1 (by omega), Option.bind_some, decide_eq_true c1, if_true, hm, ew, (h1 k (by omega)).1, (h1 k (by omega)).2]
            rw [if_pos e, if_pos e0, if_neg c2, if_neg c3, if_pos e, if_pos e0, if_pos e, if_neg c2, if_neg c3]; exact ⟨rfl, rfl⟩
          · by_cases z : j = i
            · subst z; rw [hp]; exact hel
            · exact h2 ho j (by omega) q2
    · apply fin
      intro k hk
      simp only [spec_l04Ok.l0, impl_ValidTuning.l0, hp, l02Ok_eq k p.f0 p.f1 (by omega), ValidRatio_eq k p.f0 p.f1 (by omega), Option.bind_some, decide_eq_false c1]
      rw [if_pos e, if_pos e0, if_pos e, if_pos e0, if_pos e]; exact ⟨rfl, rfl⟩
structure GoodT (l : List S23) : Prop where
  len : l.length = 12
  el : ∀ j : Nat, j < 12 → ElOk (rd_T23 l j)
theorem tuning_eq (a : ByteArray) (l : List S23) :
    ∃ r : Bool, (∀ k, 1000100 < k → spec_l04Ok.f k a l = some r ∧ impl_ValidTuning.f k a l = some r) ∧ (r = true → GoodT l) := by
  unfold spec_l04Ok.f impl_ValidTuning.f
  by_cases h1 : nameOk a
  · by_cases h2 : (l.length : Int) = 12
    · have h0 : 0 < (l.length : Int) := by omega
      generalize hp : rd_T23 l 0 = p
      obtain ⟨o, ho⟩ : ∃ o, ((if p.f0 = 1 then some (p.f1 == 1) else some false) : Option Bool) = some o := by split <;> exact ⟨_, rfl⟩
      obtain ⟨r, hr, hg⟩ := tun_l0 a l (by omega) o (by rw [hp]; exact ho) l.length 0 (by omega)
      have hb : (!(p.f0 == 1) || (!(p.f1 == 1))) = !o := by
        by_cases c : p.f0 = 1
        · rw [if_pos c] at ho; have := Option.some.inj ho; subst this; simp [c]
        · rw [if_neg c] at ho; have := Option.some.inj ho; subst this; simp [c]
      refine ⟨r && o, fun k hk => ?_, fun h => ⟨by omega, fun j hj => hg (by simp at h; exact h.1) j (by omega) (by omega)⟩⟩
      obtain ⟨k, rfl⟩ : ∃ m, k = m + 1 := ⟨k - 1, by omega⟩
      have e1 := (hr (k + 1) (by omega)).1
      have e2 := (hr k (by omega)).2
      simp only [Int.natCast_zero] at e1 e2
      rw [l01Name_eq _ a (by omega), IsName_eq _ a (by omega)]
      simp only [Option.bind_some, decide_eq_true h1, if_true, if_pos h2, if_pos h0, hb, impl_ValidTuning.j0, e1, e2]
      first | done | (cases o <;> simp)
    · refine ⟨false, fun k hk => ?_, fun h => by simp at h⟩
      obtain ⟨k, rfl⟩ : ∃ m, k = m + 1 := ⟨k - 1, by omega⟩
      rw [l01Name_eq _ a (by omega), IsName_eq _ a (by omega)]
      simp only [Option.bind_some, decide_eq_true h1, if_true, if_neg h2, impl_ValidTuning.j0]; exact ⟨trivial, trivial⟩
  · refine ⟨false, fun k hk => ?_, fun h => by simp at h⟩
    obtain ⟨k, rfl⟩ : ∃ m, k = m + 1 := ⟨k - 1, by omega⟩
    rw [l01Name_eq _ a (by omega), IsName_eq _ a (by omega)]
    simp [h1, impl_ValidTuning.j0]

/-- The pairs of numbers from m on, n of them. -/
def seqR : Nat → Int → List S23
  | 0, _ => []
  | n + 1, m => ⟨m, m + 1⟩ :: seqR n (m + 2)
theorem seqR_length (n : Nat) : ∀ m, (seqR n m).length = n := by
  induction n with
  | zero => intro m; rfl
  | succ n ih => intro m; simp [seqR, ih]
theorem rdT_mid (pre post : List S23) (x : S23) (i : Nat) (h : pre.length = i) : rd_T23 (pre ++ x :: post) (i : Int) = x := by
  rw [rdT_lt _ i (by simp; omega), List.getElem_append_right (by omega)]
  simp [h]
theorem markR_l0 (d : Nat) : ∀ (k i : Nat) (m : Int) (pre post : List S23), pre.length = i → post.length = d → i + d ≤ 1048576 → 0 ≤ m → m + 2 * d ≤ 4000000 → d < k →
    laws_markRatioS.l0 k (pre ++ post) m i = some (m + 2 * d, pre ++ seqR d m) := by
  induction d with
  | zero =>
    intro k i m pre post h2 h3 h4 h5 h6 hk
    obtain ⟨k, rfl⟩ : ∃ m, k = m + 1 := ⟨k - 1, by omega⟩
    obtain rfl := List.length_eq_zero_iff.1 h3
    simp only [laws_markRatioS.l0]; rw [if_neg (by simp; omega)]; simp [seqR]
  | succ d ih =>
    intro k i m pre post h2 h3 h4 h5 h6 hk
    obtain ⟨k, rfl⟩ : ∃ m, k = m + 1 := ⟨k - 1, by omega⟩
    cases post with
    | nil => simp at h3
    | cons x post =>
      have hp : post.length = d := by simpa using h3
      have a1 : i + 1 + d ≤ 1048576 := by omega
      have a2 : 0 ≤ m + 2 := by omega
      have a3 : m + 2 + 2 * (d : Int) ≤ 4000000 := by omega
      have a4 : d < k := by omega
      have a5 : m + 2 + 2 * (d : Int) = m + 2 * ((d + 1 : Nat) : Int) := by omega
      have hlen : (pre ++ x :: post).length = i + d + 1 := by simp; omega
      have e1 : (i : Int) < ((pre ++ x :: post).length : Int) := by omega
      have e2 : 0 ≤ (i : Int) := by omega
      have w1 : wrap64 (m + 1) = m + 1 := wr (by omega)
      have w2 : wrap64 (m + 1 + 1) = m + 2 := by rw [wr (by omega)]; omega
      have w3 : wrap64 ((i : Int) + 1) = ((i + 1 : Nat) : Int) := by rw [wr (n := (i : Int) + 1) (by omega)]; omega
      have s1 : ∀ y : S23, (pre ++ x :: post).set i y = pre ++ y :: post := by
        intro y; rw [List.set_append_right _ _ (by omega), h2, Nat.sub_self, List.set_cons_zero]
      have s2 : ∀ z y : S23, (pre ++ z :: post).set i y = pre ++ y :: post := by
        intro z y; rw [List.set_append_right _ _ (by omega), h2, Nat.sub_self, List.set_cons_zero]
      simp only [laws_markRatioS.l0]
      rw [if_pos e1, if_pos e2, Option.bind_some, Int.toNat_natCast, s1, rdT_mid _ _ _ i h2, rdT_mid _ _ _ i h2, s2, w1, w2, w3]
      have := ih k (i + 1) (m + 2) (pre ++ [⟨m, m + 1⟩]) post (by simp [h2]) hp a1 a2 a3 a4
      rw [List.append_assoc] at this
      rw [show (⟨m, m + 1⟩ : S23) :: post = [⟨m, m + 1⟩] ++ post from rfl, this, a5]
      simp [seqR]
theorem markT_eq (k : Nat) (a : ByteArray) (l : List S23) (hl : l.length ≤ 1048576) (hk : l.length < k) : laws_markTuning.f k a l 1 = some (1 + 2 * (l.length : Int), seqR l.length 1) := by
  unfold laws_markTuning.f laws_markRatioS.f
  have := markR_l0 l.length k 0 1 [] l rfl rfl (by omega) (by omega) (by omega) hk
  rw [List.nil_append, Int.natCast_zero] at this
  rw [this]; rfl
theorem heldR_l0 (d : Nat) : ∀ (k i : Nat) (m : Int) (pre : List S23), pre.length = i → i + d ≤ 1048576 → 0 ≤ m → m + 2 * d ≤ 4000000 → d < k →
    laws_heldRatioS.l0 k (pre ++ seqR d m) m i = some (m + 2 * d) := by
  induction d with
  | zero =>
    intro k i m pre h2 h4 h5 h6 hk
    obtain ⟨k, rfl⟩ : ∃ m, k = m + 1 := ⟨k - 1, by omega⟩
    have hl : (pre ++ seqR 0 m).length = i := by simp [seqR, h2]
    simp only [laws_heldRatioS.l0]; rw [if_neg (by omega)]; simp
  | succ d ih =>
    intro k i m pre h2 h4 h5 h6 hk
    obtain ⟨k, rfl⟩ : ∃ m, k = m + 1 := ⟨k - 1, by omega⟩
    have hlen : (pre ++ seqR (d + 1) m).length = i + d + 1 := by rw [List.length_append, seqR_length]; omega
    have e1 : (i : Int) < ((pre ++ seqR (d + 1) m).length : Int) := by omega
    have e2 : 0 ≤ (i : Int) := by omega
    have w1 : wrap64 (m + 1) = m + 1 := wr (by omega)
    have w2 : wrap64 (m + 1 + 1) = m + 2 := by rw [wr (by omega)]; omega
    have w3 : wrap64 ((i : Int) + 1) = ((i + 1 : Nat) : Int) := by rw [wr (n := (i : Int) + 1) (by omega)]; omega
    have er : rd_T23 (pre ++ seqR (d + 1) m) (i : Int) = ⟨m, m + 1⟩ := rdT_mid pre (seqR d (m + 2)) ⟨m, m + 1⟩ i h2
    simp only [laws_heldRatioS.l0]
    rw [if_pos e1, if_pos e2, er, w1, w2, w3, if_pos rfl, if_pos rfl]
    have := ih k (i + 1) (m + 2) (pre ++ [⟨m, m + 1⟩]) (by simp [h2]) (by omega) (by omega) (by omega) (by omega)
    rw [List.append_assoc] at this
    rw [show seqR (d + 1) m = [(⟨m, m + 1⟩ : S23)] ++ seqR d (m + 2) from rfl, this]
    congr 1; omega
theorem heldT_eq (k : Nat) (a : ByteArray) (n : Nat) (hl : n ≤ 1048576) (hk : n < k) : laws_heldTuning.f k a (seqR n 1) 1 = some (1 + 2 * (n : Int)) := by
  unfold laws_heldTuning.f laws_heldRatioS.f
  have := heldR_l0 n k 0 1 [] rfl (by omega) (by omega) (by omega) hk
  rw [List.nil_append, Int.natCast_zero] at this
  have e : ¬ (1 + 2 * (n : Int)) < 0 := by omega
  rw [this, Option.bind_some, if_neg e]

theorem toB_app2 (a b : List UInt8) : toB a ++ toB b = toB (a ++ b) := by
  refine ba_eq ?_
  unfold toB
  simp [ByteArray.data_append]
/-- A ratio's text, as bytes. -/
def ratL (r : S23) : List UInt8 := Go.Lib.itoa r.f0 ++ 47 :: Go.Lib.itoa r.f1
theorem ratText_toB (r : S23) : ratText r.f0 r.f1 = toB (ratL r) := ba_eq (by rw [ratText_data, data_toB]; rfl)
theorem ratL_len (r : S23) (h : RatOk r.f0 r.f1) : (ratL r).length ≤ 65 := by
  have h1 := itoa_size2 r.f0 (by have := h.1; omega)
  have h2 := itoa_size2 r.f1 (by have := h.2.1; omega)
  have e1 : ∀ v, (⟨(Go.Lib.itoa v).toArray⟩ : ByteArray).size = (Go.Lib.itoa v).length := fun v => List.size_toArray ..
  rw [e1] at h1 h2
  unfold ratL
  rw [List.length_append, List.length_cons]; omega
theorem ttext_l0 (l : List S23) (g : GoodT l) (d : Nat) : ∀ (i : Nat) (x : List UInt8), l.length = i + d → x.length ≤ 1048576 + 70 * i →
    ∀ k, 1000200 + d < k → impl_TuningText.l0 k (toB x) l l.length i = some (toB (x ++ Go.Lib.joinTail [32] ((l.drop i).map ratL))) := by
  have hl := g.len
  induction d with
  | zero =>
    intro i x hd hx k hk
    obtain ⟨k, rfl⟩ : ∃ m, k = m + 1 := ⟨k - 1, by omega⟩
    have e : ¬ (i : Int) < (l.length : Int) := by omega
    simp only [impl_TuningText.l0]
    rw [if_neg e, List.drop_eq_nil_of_le (by omega)]
    unfold Go.Lib.joinTail
    simp
  | succ d ih =>
    intro i x hd hx k hk
    obtain ⟨k, rfl⟩ : ∃ m, k = m + 1 := ⟨k - 1, by omega⟩
    obtain ⟨hr, _⟩ := g.el i (by omega)
    have hi : i < l.length := by omega
    have e : (i : Int) < (l.length : Int) := by omega
    have e0 : 0 ≤ (i : Int) := by omega
    have ew : wrap64 ((i : Int) + 1) = ((i + 1 : Nat) : Int) := by rw [wr (n := (i : Int) + 1) (by omega)]; omega
    have er := rdT_lt l i hi
    rw [er] at hr
    have hz := ratL_len _ hr
    have eb : (⟨#[32]⟩ : ByteArray) = toB [32] := rfl
    have q1 : 1 + (toB (ratL l[i])).size ≤ 9223372036854775807 := by rw [toB_size]; omega
    have q2 : (toB x).size + (toB ([32] ++ ratL l[i])).size ≤ 9223372036854775807 := by rw [toB_size, toB_size, List.length_append, List.length_singleton]; omega
    simp only [impl_TuningText.l0]
    rw [if_pos e, if_pos e0, if_pos e, er, RatioText_eq2 k _ _ (by omega), Option.bind_some, if_pos hr, ratText_toB, if_pos q1, eb, toB_app2, if_pos q2, toB_app2, ew,
      ih (i + 1) (x ++ ([32] ++ ratL l[i])) (by omega) (by rw [List.length_append, List.length_append, List.length_singleton]; omega) k (by omega), List.drop_eq_getElem_cons hi]
    congr 2
    unfold Go.Lib.joinTail
    rw [List.map_cons, List.map_cons, List.flatten_cons, List.append_assoc]
theorem rdOf_nat (ps : List (List UInt8)) (i : Nat) (hi : i < ps.length) : rdOf ByteArray.empty (ps.map toB) (i : Int) = toB ps[i] := by
  unfold rdOf
  rw [Int.toNat_natCast, List.getD_eq_getElem?_getD, List.getElem?_map, List.getElem?_eq_getElem hi]; rfl
/-- What both loops come to behind the last ratio. -/
def endS (k : Nat) (a : ByteArray) (rs : List S23) : Option (ByteArray × List S23 × Bool) := (spec_l04Ok.f k a rs).bind fun t => if t = true then some (a, rs, true) else some (⟨#[]⟩, [], false)
def endI (k : Nat) (s a : ByteArray) (rs : List S23) : Option (ByteArray × List S23 × Bool) := if s.toList = ([] : List UInt8) then some (⟨#[]⟩, [], false) else (impl_TuningText.f k a rs).bind fun t => if t.toList = s.toList then some (a, rs, true) else some (⟨#[]⟩, [], false)
/-- The two loops, side by side: the reference's over all pieces from the second on, the program's over the rest. -/
theorem rt_l0 (s a : ByteArray) (p : List UInt8) (ps : List (List UInt8)) (hp : ps.length ≤ 1048577) (hl : ∀ q ∈ ps, q.length ≤ 1048576) (d : Nat) : ∀ (i : Nat) (acc : List S23), ps.length = i + d → acc.length = i →
    (∃ rs : List S23, (∀ r ∈ rs, RatOk r.f0 r.f1) ∧ rs.map ratL = ps.drop i ∧ ∀ k, 10000001 + d < k → ∃ j, 10000000 < j ∧ spec_l04Read.l0 k ((p :: ps).map toB) ((i + 1 : Nat) : Int) a acc = endS j a (acc ++ rs) ∧ impl_ReadTuning.l0 k s (ps.map toB) ps.length i a acc = endI j s a (acc ++ rs)) ∨
    (∀ k, 10000001 + d < k → spec_l04Read.l0 k ((p :: ps).map toB) ((i + 1 : Nat) : Int) a acc = some (⟨#[]⟩, [], false) ∧ impl_ReadTuning.l0 k s (ps.map toB) ps.length i a acc = some (⟨#[]⟩, [], false)) := by
  induction d with
  | zero =>
    intro i acc hd ha
    refine .inl ⟨[], by simp, by rw [List.drop_eq_nil_of_le (by omega)]; rfl, fun k hk => ?_⟩
    obtain ⟨k, rfl⟩ : ∃ m, k = m + 1 := ⟨k - 1, by omega⟩
    have e1 : ¬ ((i + 1 : Nat) : Int) < (((p :: ps).map toB).length : Int) := by rw [List.length_map, List.length_cons]; omega
    have e2 : ¬ (i : Int) < (ps.length : Int) := by omega
    refine ⟨k, by omega, ?_, ?_⟩
    · simp only [spec_l04Read.l0]
      rw [if_neg e1, List.append_nil]; rfl
    · simp only [impl_ReadTuning.l0]
      rw [if_neg e2, List.append_nil]; rfl
  | succ d ih =>
    intro i acc hd ha
    have hi : i < ps.length := by omega
    have edrop := List.drop_eq_getElem_cons hi
    have e1 : ((i + 1 : Nat) : Int) < (((p :: ps).map toB).length : Int) := by rw [List.length_map, List.length_cons]; omega
    have e2 : (i : Int) < (ps.length : Int) := by omega
    have e3 : 0 ≤ ((i + 1 : Nat) : Int) := by omega
    have e4 : 0 ≤ (i : Int) := by omega
    have e5 : (i : Int) < ((ps.map toB).length : Int) := by rw [List.length_map]; omega
    have e6 : acc.length < 8796093022208 := by omega
    have w1 : wrap64 (((i + 1 : Nat) : Int) + 1) = ((i + 1 + 1 : Nat) : Int) := by rw [wr (n := ((i + 1 : Nat) : Int) + 1) (by omega)]; omega
    have w2 : wrap64 ((i : Int) + 1) = ((i + 1 : Nat) : Int) := by rw [wr (n := (i : Int) + 1) (by omega)]; omega
    have r1 : rdOf ByteArray.empty ((p :: ps).map toB) ((i + 1 : Nat) : Int) = toB ps[i] := by rw [rdOf_nat (p :: ps) (i + 1) (by simp; omega)]; rfl
    have r2 := rdOf_nat ps i hi
    obtain ⟨r, hok, hno, hr⟩ := readRat_eq (toB ps[i]) (by rw [toB_size]; exact hl _ (List.getElem_mem hi))
    obtain ⟨n, m, b⟩ := r
    cases b with
    | false =>
      refine .inr fun k hk => ?_
      obtain ⟨k, rfl⟩ : ∃ m, k = m + 1 := ⟨k - 1, by omega⟩
      obtain ⟨h1, h2⟩ := hr k (by omega)
      refine ⟨?_, ?_⟩
      · simp only [spec_l04Read.l0]
        rw [if_pos e1, if_pos e3, r1, h1]; rfl
      · simp only [impl_ReadTuning.l0]
        rw [if_pos e2, if_pos e4, if_pos e5, r2, h2]; rfl
    | true =>
      obtain ⟨hro, htx⟩ := hok rfl
      dsimp only at hro htx
      have hS : ∀ k, 10000001 + d < k → spec_l04Read.l0 (k + 1) ((p :: ps).map toB) ((i + 1 : Nat) : Int) a acc = spec_l04Read.l0 k ((p :: ps).map toB) ((i + 1 + 1 : Nat) : Int) a (acc ++ [⟨n, m⟩]) := by
        intro k hk
        simp only [spec_l04Read.l0]
        rw [if_pos e1, if_pos e3, r1, (hr k (by omega)).1, Option.bind_some]
        dsimp only
        rw [if_pos rfl, if_pos e6, w1]
      have hI : ∀ k, 10000001 + d < k → impl_ReadTuning.l0 (k + 1) s (ps.map toB) ps.length i a acc = impl_ReadTuning.l0 k s (ps.map toB) ps.length ((i + 1 : Nat) : Int) a (acc ++ [⟨n, m⟩]) := by
        intro k hk
        simp only [impl_ReadTuning.l0]
        rw [if_pos e2, if_pos e4, if_pos e5, r2, (hr k (by omega)).2, Option.bind_some]
        dsimp only
        rw [if_pos rfl, if_pos e6, w2]
      rcases ih (i + 1) (acc ++ [⟨n, m⟩]) (by omega) (by simp; omega) with ⟨rs, h1, h2, h3⟩ | h1
      · refine .inl ⟨⟨n, m⟩ :: rs, ?_, ?_, fun k hk => ?_⟩
        · intro x hx
          rcases List.mem_cons.1 hx with rfl | hx
          · exact hro
          · exact h1 x hx
        · rw [List.map_cons, h2, edrop]
          congr 1
          have := congrArg (fun z : ByteArray => z.data.toList) htx
          simp only [data_toB, ratText_data] at this
          exact this.symm
        · obtain ⟨k, rfl⟩ : ∃ m, k = m + 1 := ⟨k - 1, by omega⟩
          obtain ⟨j, hj, q1, q2⟩ := h3 k (by omega)
          refine ⟨j, hj, ?_, ?_⟩
          · rw [hS k (by omega), q1, List.append_assoc]; rfl
          · rw [hI k (by omega), q2, List.append_assoc]; rfl
      · refine .inr fun k hk => ?_
        obtain ⟨k, rfl⟩ : ∃ m, k = m + 1 := ⟨k - 1, by omega⟩
        obtain ⟨q1, q2⟩ := h1 k (by omega)
        exact ⟨by rw [hS k (by omega), q1], by rw [hI k (by omega), q2]⟩
theorem readTuning_eq (s : ByteArray) (hs : s.size ≤ 1048576) : ∃ r : ByteArray × List S23 × Bool, r.2.1.length ≤ 1048576 ∧ ∀ k, 20000000 < k → spec_l04Read.f k s = some r ∧ impl_ReadTuning.f k s = some r := by
  have hz := Go.Lib.size_eq s
  have hmem := pcs_mem 32 _ s.data.toList (Nat.le_refl _)
  have hlen := pcs_len 32 _ s.data.toList (Nat.le_refl _)
  have hpos := pcs_pos 32 s.data.toList
  have hjoin := join_pcs 32 _ s.data.toList (Nat.le_refl _)
  have hemp : s.data.toList = [] → (pcs 32 s.data.toList).length = 1 := by intro h; rw [h]; rfl
  obtain ⟨p, ps, e⟩ : ∃ p ps, pcs 32 s.data.toList = p :: ps := List.exists_cons_of_ne_nil (by intro h; rw [h] at hpos; simp at hpos)
  rw [e] at hmem hlen hjoin hemp
  rw [List.length_cons] at hlen hemp
  have e0 : rdOf ByteArray.empty ((p :: ps).map toB) 0 = toB p := rfl
  have fS : ∀ k, 20000000 < k → spec_l04Read.f k s = spec_l04Read.l0 k ((p :: ps).map toB) ((0 + 1 : Nat) : Int) (toB p) [] := by
    intro k hk
    unfold spec_l04Read.f
    rw [split_eq s 32 32 rfl hs k (by omega), Option.bind_some, e, if_pos (by simp), e0]; rfl
  have fI : ∀ k, impl_ReadTuning.f k s = impl_ReadTuning.l0 k s (ps.map toB) ps.length (0 : Nat) (toB p) [] := by
    intro k
    unfold impl_ReadTuning.f strings_Split.f
    have eb : (⟨#[32]⟩ : ByteArray) = toB [32] := rfl
    rw [eb, if_pos ⟨by omega, by rw [toB_size]; simp⟩, splitB_pcs, Option.bind_some, e, if_pos (by simp), if_pos (by rw [List.length_map, List.length_cons]; omega), Option.bind_some, e0, List.map_cons]
    rw [show (toB p :: ps.map toB).drop 1 = ps.map toB from rfl, List.length_map]; rfl
  have hl : ∀ q ∈ ps, q.length ≤ 1048576 := fun q hq => by have := (hmem q (List.mem_cons_of_mem _ hq)).2; omega
  rcases rt_l0 s (toB p) p ps (by omega) hl ps.length 0 [] (by omega) rfl with ⟨rs, h1, h2, h3⟩ | h1
  · rw [List.drop_zero] at h2
    have hrl : rs.length = ps.length := by rw [← h2, List.length_map]
    obtain ⟨v, hv, hg⟩ := tuning_eq (toB p) rs
    cases v with
    | false =>
      refine ⟨(⟨#[]⟩, [], false), by simp, fun k hk => ?_⟩
      obtain ⟨j, hj, q1, q2⟩ := h3 k (by omega)
      obtain ⟨v1, v2⟩ := hv j (by omega)
      rw [List.nil_append] at q1 q2
      rw [fS k hk, fI k, q1, q2]
      unfold endS endI impl_TuningText.f
      rw [v1, v2]
      refine ⟨rfl, ?_⟩
      by_cases c : s.toList = ([] : List UInt8)
      · rw [if_pos c]
      · rw [if_neg c, Option.bind_some, if_neg (by simp), Option.bind_some, if_neg (fun h => c (h.symm.trans (Go.ByteArray.toList_eq _)))]
    | true =>
      have g := hg rfl
      have hne : ¬ s.toList = ([] : List UInt8) := by
        intro h
        rw [Go.ByteArray.toList_eq] at h
        have := hemp h
        have := g.len
        omega
      have hpl : p.length ≤ 1048576 := by have := (hmem p (List.mem_cons_self ..)).2; omega
      refine ⟨(toB p, rs, true), by dsimp only; have := g.len; omega, fun k hk => ?_⟩
      obtain ⟨j, hj, q1, q2⟩ := h3 k (by omega)
      obtain ⟨v1, v2⟩ := hv j (by omega)
      rw [List.nil_append] at q1 q2
      rw [fS k hk, fI k, q1, q2]
      unfold endS endI impl_TuningText.f
      have ht := ttext_l0 rs g rs.length 0 p (by omega) (by omega) j (by have := g.len; omega)
      rw [List.drop_zero, h2, ← Go.Lib.join_cons, hjoin, Int.natCast_zero] at ht
      rw [v1, v2]
      refine ⟨rfl, ?_⟩
      rw [if_neg hne, Option.bind_some, if_pos rfl, ht, Option.bind_some, if_pos (by rw [Go.ByteArray.toList_eq, Go.ByteArray.toList_eq, data_toB])]
  · refine ⟨(⟨#[]⟩, [], false), by simp, fun k hk => ?_⟩
    obtain ⟨q1, q2⟩ := h1 k (by omega)
    rw [fS k hk, fI k]
    exact ⟨q1, q2⟩
theorem FnExactReadTuning : laws_FnExactReadTuning.Pure := by
  intro s _
  by_cases h : (s.size : Int) > 1048576
  · exact ⟨0, by unfold laws_FnExactReadTuning.f; rw [if_pos h]⟩
  · obtain ⟨⟨a, rs, b⟩, hr, hf⟩ := readTuning_eq s (by omega)
    dsimp only at hr
    refine ⟨30000000, ?_⟩
    have eR : ∀ k, 2000000 < k → laws_eqTuning.f k a rs a rs = some true := fun k hk => eqTuning_self k a rs hr (by omega)
    have mR : ∀ k, 2000000 < k → laws_markTuning.f k a rs 1 = some (1 + 2 * (rs.length : Int), seqR rs.length 1) := fun k hk => markT_eq k a rs hr (by omega)
    have hR : ∀ k, 2000000 < k → laws_heldTuning.f k a (seqR rs.length 1) 1 = some (1 + 2 * (rs.length : Int)) := fun k hk => heldT_eq k a rs.length hr (by omega)
    have n2 : ¬ (1 + 2 * (rs.length : Int) < 0) := by omega
    unfold laws_FnExactReadTuning.f spec_ReadTuning.f
    rw [if_neg h, (hf 30000000 (by omega)).1, (hf 30000000 (by omega)).2]; simp only [Option.bind_some]
    rw [eR _ (by omega)]
    rw [show (30000000 : Nat) = 29999999 + 1 from rfl]
    simp only [Option.bind_some, if_true, bne_self_eq_false, laws_FnExactReadTuning.j0, Bool.false_eq_true, if_false]
    rw [mR _ (by omega)]; simp only [Option.bind_some]
    rw [hR _ (by omega)]; simp only [Option.bind_some]
    rw [if_neg n2]; simp only [if_true]
    rw [(hf _ (by omega)).2]; simp only [Option.bind_some]
    rw [eR _ (by omega)]
    rw [show (29999999 : Nat) = 29999998 + 1 from rfl]
    simp only [Option.bind_some, if_true, bne_self_eq_false, laws_FnExactReadTuning.j1, Bool.false_eq_true, if_false]
    rw [hR _ (by omega)]; simp only [Option.bind_some]
    rw [if_neg n2]; simp

end Go.Proofs.YtfpjcjignplpkaaDoor.Pure
