/- Proved: the plain statement of the law FnExactReadList: the program's function and the reference's give the same answer. Conditions: none beyond the statement's own. -/
import Derived.Test.YtfpjcjignplpkaaDoorPFnExactReadListx4
import Derived.Lib.IndexBytes
import Derived.Lib.ParseIntB
import Derived.Lib.ItoaNum
import Derived.Lib.Join
import Derived.Lib.Split
namespace Go.Proofs.YtfpjcjignplpkaaDoor.Pure
open Go.RowKit Go.Proofs.YtfpjcjignplpkaaDoor.PFnExactReadList Go.Proofs.YtfpjcjignplpkaaDoorW.PrintWords Go.Proofs.YtfpjcjignplpkaaDoorW.PrintLast
set_option linter.unusedVariables false
set_option linter.unusedSimpArgs false

theorem wr {n : Int} (h : -9223372036854775808 ≤ n ∧ n ≤ 9223372036854775807) : wrap64 n = n := by unfold wrap64; omega

def isDig (b : UInt8) : Prop := 48 ≤ b.toNat ∧ b.toNat ≤ 57
def numAcc (acc : Nat) (l : List UInt8) : Nat := l.foldl (fun n c => n * 10 + (c.toNat - 48)) acc
theorem nA_nil (acc : Nat) : numAcc acc [] = acc := rfl
theorem nA_cons (acc : Nat) (c : UInt8) (r : List UInt8) : numAcc acc (c :: r) = numAcc (acc * 10 + (c.toNat - 48)) r := by unfold numAcc; rw [List.foldl_cons]
theorem numAcc_ge : ∀ (l : List UInt8) (acc : Nat), acc ≤ numAcc acc l
  | [], acc => Nat.le_refl _
  | c :: r, acc => by have := numAcc_ge r (acc * 10 + (c.toNat - 48)); rw [nA_cons]; omega
theorem numAcc_append : ∀ (l r : List UInt8) (acc : Nat), numAcc acc (l ++ r) = numAcc (numAcc acc l) r
  | [], r, acc => by rw [nA_nil, List.nil_append]
  | c :: l, r, acc => by rw [List.cons_append, nA_cons, nA_cons, numAcc_append l r]
theorem numAcc_lt : ∀ (l : List UInt8) (acc : Nat), (∀ c ∈ l, isDig c) → numAcc acc l < (acc + 1) * 10 ^ l.length
  | [], acc, _ => by rw [nA_nil]; simp
  | c :: r, acc, h => by
    have hc : isDig c := h c (by simp)
    have h1 := numAcc_lt r (acc * 10 + (c.toNat - 48)) (fun x hx => h x (by simp [hx]))
    unfold isDig at hc
    rw [nA_cons, List.length_cons, Nat.pow_succ]
    refine Nat.lt_of_lt_of_le h1 ?_
    rw [Nat.mul_comm (10 ^ r.length) 10, ← Nat.mul_assoc]
    exact Nat.mul_le_mul_right _ (by omega)
theorem parseM_ok (M : Nat) (hM : M ≤ 18446744073709551615) : ∀ (l : List UInt8) (acc : Nat), (∀ c ∈ l, isDig c) → numAcc acc l ≤ M → Go.Lib.parseUintM M acc l = .ok (numAcc acc l)
  | [], acc, _, _ => by rw [nA_nil]; rfl
  | c :: r, acc, h, hm => by
    have hc : isDig c := h c (by simp)
    have hg := numAcc_ge r (acc * 10 + (c.toNat - 48))
    rw [nA_cons] at hm ⊢
    rw [Go.Lib.parseUintM, if_pos (show 48 ≤ c.toNat ∧ c.toNat ≤ 57 from hc), if_neg (by omega), if_neg (by omega)]
    exact parseM_ok M hM r _ (fun x hx => h x (by simp [hx])) hm
theorem dig_byte (c : UInt8) (h : isDig c) : UInt8.ofNat (48 + (c.toNat - 48)) = c := by
  unfold isDig at h
  rw [show 48 + (c.toNat - 48) = c.toNat by omega]
  simp
theorem dec_append : ∀ (l : List UInt8) (acc : Nat), 1 ≤ acc → (∀ c ∈ l, isDig c) → Go.Lib.decDigits (numAcc acc l) = Go.Lib.decDigits acc ++ l
  | [], acc, _, _ => by rw [nA_nil]; simp
  | c :: r, acc, h1, h => by
    have hc : isDig c := h c (by simp)
    rw [nA_cons, dec_append r _ (by omega) (fun x hx => h x (by simp [hx]))]
    have e : Go.Lib.decDigits (acc * 10 + (c.toNat - 48)) = Go.Lib.decDigits acc ++ [c] := by
      have hd := dig_byte c hc
      unfold isDig at hc
      rw [Go.Lib.decDigits, dif_neg (by omega), show (acc * 10 + (c.toNat - 48)) / 10 = acc by omega, show (acc * 10 + (c.toNat - 48)) % 10 = c.toNat - 48 by omega, hd]
    rw [e, List.append_assoc]; rfl
/-- A numeral without needless zeros is the numeral of its value. -/
theorem dec_of_digits (c : UInt8) (r : List UInt8) (h : ∀ x ∈ c :: r, isDig x) (hz : c.toNat = 48 → r = []) : Go.Lib.decDigits (numAcc 0 (c :: r)) = c :: r := by
  have hc : isDig c := h c (by simp)
  have hd := dig_byte c hc
  by_cases z : c.toNat = 48
  · have := hz z
    subst this
    rw [nA_cons, nA_nil, Go.Lib.decDigits, dif_pos (by omega)]
    rw [z] at hd ⊢
    rw [show 48 + (0 * 10 + (48 - 48)) = 48 + (48 - 48) by omega, hd]
  · have hc' := hc
    unfold isDig at hc'
    rw [nA_cons, dec_append r _ (by omega) (fun x hx => h x (by simp [hx])), Go.Lib.decDigits, dif_pos (by omega), show 48 + (0 * 10 + (c.toNat - 48)) = 48 + (c.toNat - 48) by omega, hd]; rfl
theorem ofNat_dig (u : Nat) (h : u < 10) : isDig (UInt8.ofNat (48 + u)) ∧ (UInt8.ofNat (48 + u)).toNat = 48 + u := by
  unfold isDig
  rw [UInt8.toNat_ofNat', Nat.mod_eq_of_lt (by omega)]
  omega
theorem decDigits_dig (u : Nat) : ∀ c ∈ Go.Lib.decDigits u, isDig c := by
  induction u using Nat.strongRecOn with
  | _ u ih =>
    intro c hc
    by_cases h : u < 10
    · rw [Go.Lib.decDigits, dif_pos h, List.mem_singleton] at hc
      subst hc; exact (ofNat_dig u h).1
    · rw [Go.Lib.decDigits, dif_neg h, List.mem_append, List.mem_singleton] at hc
      rcases hc with hc | rfl
      · exact ih (u / 10) (by omega) c hc
      · exact (ofNat_dig _ (by omega)).1
theorem numAcc_dec (u : Nat) : numAcc 0 (Go.Lib.decDigits u) = u := by
  induction u using Nat.strongRecOn with
  | _ u ih =>
    by_cases h : u < 10
    · rw [Go.Lib.decDigits, dif_pos h, nA_cons, nA_nil, (ofNat_dig u h).2]; omega
    · rw [Go.Lib.decDigits, dif_neg h, numAcc_append, ih (u / 10) (by omega), nA_cons, nA_nil, (ofNat_dig _ (by omega)).2]; omega
/-- The first digit is no zero, but for zero itself. -/
theorem decDigits_head (u : Nat) : ∃ c r, Go.Lib.decDigits u = c :: r ∧ (c.toNat = 48 → r = []) := by
  induction u using Nat.strongRecOn with
  | _ u ih =>
    by_cases h : u < 10
    · exact ⟨_, [], by rw [Go.Lib.decDigits, dif_pos h], fun _ => rfl⟩
    · obtain ⟨c, r, e, hz⟩ := ih (u / 10) (by omega)
      refine ⟨c, r ++ [UInt8.ofNat (48 + u % 10)], by rw [Go.Lib.decDigits, dif_neg h, e]; rfl, fun z => ?_⟩
      have hr := hz z
      subst hr
      exfalso
      have hn := numAcc_dec (u / 10)
      rw [e, nA_cons, nA_nil, z] at hn
      omega
theorem nDigits_pow : ∀ (k u : Nat), 1 ≤ k → u < 10 ^ k → Go.Lib.nDigits u ≤ k
  | 0, _, h, _ => by omega
  | k + 1, u, _, h => by
    by_cases hs : u < 10
    · rw [Go.Lib.nDigits_small hs]; omega
    · rw [Go.Lib.nDigits_big hs]
      rw [Nat.pow_succ] at h
      cases k with
      | zero => simp at h; omega
      | succ k => have := nDigits_pow (k + 1) (u / 10) (by omega) (by omega); omega
/-- What a numeral of at most 18 digits looks like. -/
def Numeral (l : List UInt8) : Prop := ∃ c r, l = c :: r ∧ l.length ≤ 18 ∧ (∀ x ∈ l, isDig x) ∧ (c.toNat = 48 → r = [])
theorem dec_numeral (u : Nat) (h : u < 1000000000000000000) : Numeral (Go.Lib.decDigits u) := by
  obtain ⟨c, r, e, hz⟩ := decDigits_head u
  refine ⟨c, r, e, ?_, decDigits_dig u, hz⟩
  rw [Go.Lib.decDigits_length]
  exact nDigits_pow 18 u (by omega) (by omega)
theorem numeral_dec (l : List UInt8) (h : Numeral l) : Go.Lib.decDigits (numAcc 0 l) = l ∧ numAcc 0 l < 1000000000000000000 := by
  obtain ⟨c, r, rfl, hl, hd, hz⟩ := h
  refine ⟨dec_of_digits c r hd hz, ?_⟩
  have h1 := numAcc_lt (c :: r) 0 hd
  refine Nat.lt_of_lt_of_le h1 ?_
  rw [Nat.zero_add, Nat.one_mul]
  exact Nat.le_trans (Nat.pow_le_pow_right (by omega) hl) (by omega)

theorem Decimal_it (n : Int) (hb : -9223372036854775808 ≤ n ∧ n ≤ 9223372036854775807) : impl_Decimal.f n = some ⟨(Go.Lib.itoa n).toArray⟩ := by
  unfold impl_Decimal.f strconv_FormatInt.f
  rw [if_pos ⟨rfl, hb⟩]; rfl
theorem itoa_size2 (n : Int) (hb : -9223372036854775808 ≤ n ∧ n ≤ 9223372036854775807) : (⟨(Go.Lib.itoa n).toArray⟩ : ByteArray).size ≤ 32 := by
  have hd := nDigits_pow 20 n.natAbs (by omega) (by omega)
  show ((Go.Lib.itoa n).toArray).size ≤ 32
  unfold Go.Lib.itoa
  split
  · rw [List.size_toArray, List.length_cons, Go.Lib.decDigits_length]; omega
  · rw [List.size_toArray, Go.Lib.decDigits_length, show n.toNat = n.natAbs by omega]; omega

theorem bt_get (s : ByteArray) (i : Nat) (h : i < s.data.toList.length) : bt s i = ((s.data.toList[i]).toNat : Int) := by
  unfold bt
  have h' : (i : Int).toNat < s.size := by rw [Int.toNat_natCast, Go.Lib.size_eq]; exact h
  rw [dif_pos h']
  simp only [Int.toNat_natCast, Array.getElem_toList]
  rfl
theorem digit_eq' (c : Int) : spec_l01Digit.f c = some (decide (48 ≤ c ∧ c ≤ 57)) := by
  unfold spec_l01Digit.f
  by_cases h : c ≥ 48 <;> simp [h]
instance isDigDec (c : UInt8) : Decidable (isDig c) := by unfold isDig; infer_instance
theorem number_l0 (s : ByteArray) (x4 : Int) (hs : s.size ≤ 20) (d : Nat) : ∀ (k i n : Nat), s.data.toList.length = i + d → d < k → (n + 1) * 10 ^ d ≤ 1000000000000000000 →
    spec_l01Number.l0 k s x4 n i = if ∀ c ∈ s.data.toList.drop i, isDig c then (if x4 = 1 then some (-(numAcc n (s.data.toList.drop i) : Int), true) else some ((numAcc n (s.data.toList.drop i) : Int), true)) else some (0, false) := by
  have hz := Go.Lib.size_eq s
  induction d with
  | zero =>
    intro k i n hd hk hn
    obtain ⟨k, rfl⟩ : ∃ m, k = m + 1 := ⟨k - 1, by omega⟩
    have e : s.data.toList.drop i = [] := List.drop_eq_nil_of_le (by omega)
    have e1 : ¬ (i : Int) < (s.size : Int) := by omega
    simp only [spec_l01Number.l0]
    rw [if_neg e1, e, nA_nil, if_pos (show ∀ c ∈ ([] : List UInt8), isDig c from fun c hc => by cases hc), wr (n := -(n : Int)) (by simp at hn; omega)]
  | succ d ih =>
    intro k i n hd hk hn
    obtain ⟨k, rfl⟩ : ∃ m, k = m + 1 := ⟨k - 1, by omega⟩
    have hi : i < s.data.toList.length := by omega
    have e := List.drop_eq_getElem_cons hi
    have e1 : (i : Int) < (s.size : Int) := by omega
    have e2 : 0 ≤ (i : Int) := by omega
    have eb := bt_get s i hi
    rw [e]
    generalize s.data.toList[i] = c at e eb
    have hlt := c.toNat_lt
    have hp : 1 ≤ 10 ^ d := Nat.one_le_pow _ _ (by omega)
    rw [Nat.pow_succ] at hn
    have hn1 : n + 1 ≤ (n + 1) * (10 ^ d * 10) := Nat.le_mul_of_pos_right _ (by omega)
    have hn2 : (n + 1) * 10 ≤ (n + 1) * (10 ^ d * 10) := Nat.mul_le_mul_left _ (by omega)
    simp only [spec_l01Number.l0]
    rw [if_pos e1, if_pos e2, digit_eq', Option.bind_some, eb, wr (n := (i : Int) + 1) (by omega)]
    by_cases hc : isDig c
    · have hc' := hc
      unfold isDig at hc'
      have w1 : wrap64 (10 * (n : Int)) = 10 * (n : Int) := wr (by omega)
      have w2 : wrap64 (10 * (n : Int) + ((c.toNat : Int) - 48) % 256) = ((n * 10 + (c.toNat - 48) : Nat) : Int) := by rw [wr (by omega)]; omega
      have hcond : (48 ≤ (c.toNat : Int) ∧ (c.toNat : Int) ≤ 57) := by omega
      have ec : ((i : Int) + 1) = ((i + 1 : Nat) : Int) := by omega
      rw [if_pos (by simp only [hcond, and_self, decide_true]), w1, w2, ec, ih k (i + 1) (n * 10 + (c.toNat - 48)) (by omega) (by omega) ?_, nA_cons]
      · by_cases hall : ∀ x ∈ s.data.toList.drop (i + 1), isDig x
        · rw [if_pos hall, if_pos (show ∀ x ∈ c :: s.data.toList.drop (i + 1), isDig x from fun x hx => by rcases List.mem_cons.1 hx with rfl | hx; exact hc; exact hall x hx)]
        · rw [if_neg hall, if_neg (show ¬ ∀ x ∈ c :: s.data.toList.drop (i + 1), isDig x from fun h => hall fun x hx => h x (List.mem_cons_of_mem _ hx))]
      · refine Nat.le_trans (Nat.mul_le_mul_right (10 ^ d) (show n * 10 + (c.toNat - 48) + 1 ≤ (n + 1) * 10 by omega)) ?_
        rw [Nat.mul_assoc, Nat.mul_comm 10 (10 ^ d)]; exact hn
    · have hc' := hc
      unfold isDig at hc'
      rw [if_neg (by rw [decide_eq_true_eq]; omega), if_neg (show ¬ ∀ x ∈ c :: s.data.toList.drop (i + 1), isDig x from fun h => hc (h c (List.mem_cons_self ..)))]
/-- A number of at most 18 digits. -/
def Sm (v : Int) : Prop := -1000000000000000000 < v ∧ v < 1000000000000000000
theorem itoa_ne_nil (v : Int) : Go.Lib.itoa v ≠ [] := by
  intro h
  unfold Go.Lib.itoa at h
  split at h
  · simp at h
  · obtain ⟨c, r, e, _⟩ := decDigits_head v.toNat
    rw [e] at h; simp at h
/-- What the reference reads: the number whose numeral the text is. -/
theorem number_eq (s : ByteArray) (hs : s.size ≤ 140737488351232) (k : Nat) (hk : 40 ≤ k) :
    (∃ v, Sm v ∧ Go.Lib.itoa v = s.data.toList ∧ spec_l01Number.f k s = some (v, true)) ∨ ((∀ v, Sm v → Go.Lib.itoa v ≠ s.data.toList) ∧ spec_l01Number.f k s = some (0, false)) := by
  have hz := Go.Lib.size_eq s
  obtain ⟨k, rfl⟩ : ∃ m, k = m + 1 + 1 + 1 := ⟨k - 3, by omega⟩
  unfold spec_l01Number.f
  generalize hl : s.data.toList = l at hz
  cases l with
  | nil =>
    right
    rw [List.length_nil] at hz
    have e1 : ¬ (s.size : Int) > 0 := by omega
    have e2 : (s.size : Int) = 0 := by omega
    refine ⟨fun v _ => itoa_ne_nil v, ?_⟩
    rw [if_neg e1]
    simp only [spec_l01Number.j0, Bool.false_eq_true, if_false, spec_l01Number.j1]
    rw [if_pos e2]
    simp only [spec_l01Number.j2, if_true]
  | cons c r =>
    have hlt := c.toNat_lt
    rw [List.length_cons] at hz
    have e1 : (s.size : Int) > 0 := by omega
    have e2 : 0 < (s.size : Int) := by omega
    have eb : bt s 0 = (c.toNat : Int) := by
      have := bt_get s 0 (by rw [hl]; simp)
      simp only [hl] at this
      simpa using this
    rw [if_pos e1, if_pos e2, eb]
    simp only [spec_l01Number.j0]
    by_cases hm : c.toNat = 45
    · -- a minus ahead
      have hc : c = 45 := UInt8.toNat_inj.1 hm
      rw [if_pos (by rw [hm]; rfl)]
      simp only [spec_l01Number.j1]
      have noneg : ∀ v, Go.Lib.itoa v = c :: r → v < 0 ∧ Go.Lib.decDigits v.natAbs = r := by
        intro v hv
        unfold Go.Lib.itoa at hv
        by_cases hn : v < 0
        · rw [if_pos hn] at hv; exact ⟨hn, (List.cons.inj hv).2⟩
        · rw [if_neg hn] at hv
          have := decDigits_dig v.toNat c (by rw [hv]; simp)
          unfold isDig at this; omega
      have falsely : (¬ Numeral r ∨ ∃ x q, r = x :: q ∧ x.toNat = 48) → ∀ v, Sm v → Go.Lib.itoa v ≠ c :: r := by
        intro hN v hv he
        obtain ⟨hn, hd⟩ := noneg v he
        unfold Sm at hv
        rcases hN with hN | ⟨x, q, rfl, hx⟩
        · exact hN (hd ▸ dec_numeral v.natAbs (by omega))
        · obtain ⟨c', r', e', hz'⟩ := decDigits_head v.natAbs
          rw [hd] at e'
          obtain ⟨rfl, rfl⟩ := List.cons.inj e'
          have hq := hz' hx
          subst hq
          have := numAcc_dec v.natAbs
          rw [hd, nA_cons, nA_nil, hx] at this
          omega
      cases r with
      | nil =>
        right
        rw [if_pos (by rw [List.length_nil] at hz; omega)]
        simp only [spec_l01Number.j2, if_true]
        exact ⟨falsely (.inl fun ⟨_, _, h, _⟩ => by cases h), trivial⟩
      | cons x q =>
        have hxlt := x.toNat_lt
        rw [List.length_cons] at hz
        rw [if_neg (by omega), wr (n := (s.size : Int) - 1) (by omega)]
        by_cases h18 : (s.size : Int) - 1 > 18
        · right
          rw [if_pos h18]
          simp only [spec_l01Number.j2, if_true]
          exact ⟨falsely (.inl fun ⟨_, _, _, h, _⟩ => by rw [List.length_cons] at h; omega), trivial⟩
        · have eb1 : bt s 1 = (x.toNat : Int) := by
            have := bt_get s 1 (by rw [hl]; simp)
            simp only [hl] at this
            simpa using this
          rw [if_neg h18, if_pos (by omega), if_pos (by omega), eb1]
          by_cases h48 : x.toNat = 48
          · right
            rw [if_pos (by omega), show decide ((s.size : Int) > 1) = true from decide_eq_true (by omega)]
            simp only [spec_l01Number.j2, if_true]
            exact ⟨falsely (.inr ⟨x, q, rfl, h48⟩), trivial⟩
          · rw [if_neg (by omega)]
            simp only [spec_l01Number.j2, Bool.false_eq_true, if_false]
            have hL := number_l0 s 1 (by omega) (q.length + 1) k 1 0 (by rw [hl]; simp; omega) (by omega) (by
              rw [Nat.zero_add, Nat.one_mul]; exact Nat.le_trans (Nat.pow_le_pow_right (n := 10) (j := 18) (by omega) (by omega)) (by omega))
            have ed : s.data.toList.drop 1 = x :: q := by rw [hl]; rfl
            rw [ed] at hL
            have hL' : spec_l01Number.l0 k s 1 0 1 = _ := hL
            rw [hL']
            by_cases hall : ∀ y ∈ x :: q, isDig y
            · left
              have hN : Numeral (x :: q) := ⟨x, q, rfl, by rw [List.length_cons]; omega, hall, fun h => absurd h h48⟩
              obtain ⟨hd, hb⟩ := numeral_dec _ hN
              have hpos : 1 ≤ numAcc 0 (x :: q) := by
                rcases Nat.eq_zero_or_pos (numAcc 0 (x :: q)) with h0 | h0
                · rw [h0, Go.Lib.decDigits, dif_pos (by omega)] at hd
                  have := (List.cons.inj hd).1
                  exfalso; apply h48; rw [← this]; rfl
                · exact h0
              refine ⟨-(numAcc 0 (x :: q) : Int), by unfold Sm; omega, ?_, by rw [if_pos hall, if_pos rfl]⟩
              unfold Go.Lib.itoa
              rw [if_pos (by omega), show (-(numAcc 0 (x :: q) : Int)).natAbs = numAcc 0 (x :: q) by omega, hd, hc]
            · right
              rw [if_neg hall]
              exact ⟨falsely (.inl fun ⟨_, _, _, _, h, _⟩ => hall h), rfl⟩
    · -- no minus
      have hne : ¬ ((c.toNat : Int) == 45) = true := by rw [beq_iff_eq]; omega
      rw [if_neg hne]
      simp only [spec_l01Number.j1]
      have falsely : ¬ Numeral (c :: r) → ∀ v, Sm v → Go.Lib.itoa v ≠ c :: r := by
        intro hN v hv he
        unfold Go.Lib.itoa at he
        unfold Sm at hv
        by_cases hn : v < 0
        · rw [if_pos hn] at he
          exact hm (by rw [← (List.cons.inj he).1]; rfl)
        · rw [if_neg hn] at he
          exact hN (he ▸ dec_numeral v.toNat (by omega))
      have hL : s.size ≤ 18 → spec_l01Number.l0 k s 0 0 0 = if ∀ y ∈ c :: r, isDig y then some ((numAcc 0 (c :: r) : Int), true) else some (0, false) := by
        intro h18
        have hL := number_l0 s 0 (by omega) (r.length + 1) k 0 0 (by rw [hl]; simp) (by omega) (by
          rw [Nat.zero_add, Nat.one_mul]; exact Nat.le_trans (Nat.pow_le_pow_right (n := 10) (j := 18) (by omega) (by omega)) (by omega))
        rw [List.drop_zero, hl, if_neg (show ¬ (0 : Int) = 1 by omega)] at hL
        exact hL
      rw [if_neg (by omega), wr (n := (s.size : Int) - 0) (by omega)]
      by_cases h18 : (s.size : Int) - 0 > 18
      · right
        rw [if_pos h18]
        simp only [spec_l01Number.j2, if_true]
        exact ⟨falsely (fun ⟨_, _, _, h, _⟩ => by rw [List.length_cons] at h; omega), trivial⟩
      · rw [if_neg h18, if_pos (by omega), if_pos e2, eb]
        have tail : (c.toNat = 48 → r = []) → ((∃ v, Sm v ∧ Go.Lib.itoa v = c :: r ∧ spec_l01Number.l0 k s 0 0 0 = some (v, true)) ∨ ((∀ v, Sm v → Go.Lib.itoa v ≠ c :: r) ∧ spec_l01Number.l0 k s 0 0 0 = some (0, false))) := by
          intro hz48
          rw [hL (by omega)]
          by_cases hall : ∀ y ∈ c :: r, isDig y
          · left
            have hN : Numeral (c :: r) := ⟨c, r, rfl, by rw [List.length_cons]; omega, hall, hz48⟩
            obtain ⟨hd, hb⟩ := numeral_dec _ hN
            refine ⟨(numAcc 0 (c :: r) : Int), by unfold Sm; omega, ?_, by rw [if_pos hall]⟩
            unfold Go.Lib.itoa
            rw [if_neg (by omega), Int.toNat_natCast, hd]
          · right
            rw [if_neg hall]
            exact ⟨falsely (fun ⟨_, _, _, _, h, _⟩ => hall h), rfl⟩
        by_cases h48 : c.toNat = 48
        · rw [if_pos (by omega)]
          by_cases hr : r = []
          · subst hr
            rw [show decide ((s.size : Int) > 1) = false from decide_eq_false (by rw [List.length_nil] at hz; omega)]
            simp only [spec_l01Number.j2, Bool.false_eq_true, if_false]
            exact tail (fun _ => rfl)
          · have hrl : 1 ≤ r.length := List.length_pos_iff.2 hr
            rw [show decide ((s.size : Int) > 1) = true from decide_eq_true (by omega)]
            right
            simp only [spec_l01Number.j2, if_true]
            refine ⟨falsely (fun ⟨c', r', e, _, _, h⟩ => ?_), trivial⟩
            obtain ⟨rfl, rfl⟩ := List.cons.inj e
            exact hr (h h48)
        · rw [if_neg (by omega)]
          simp only [spec_l01Number.j2, Bool.false_eq_true, if_false]
          exact tail (fun h => absurd h h48)
theorem ba_ext {a b : ByteArray} (h : a.data.toList = b.data.toList) : a = b := by
  cases a; cases b; congr 1; exact Array.toList_inj.1 h
theorem parse_itoa (v : Int) (hv : Sm v) : Go.Lib.parseIntB 64 (Go.Lib.itoa v) = .ok v := by
  unfold Sm at hv
  have hp : (2 : Nat) ^ (64 - 1) = 9223372036854775808 := by decide
  have hq : (2 : Nat) ^ 64 - 1 = 18446744073709551615 := by decide
  unfold Go.Lib.itoa
  by_cases hn : v < 0
  · rw [if_pos hn]
    have hd := dec_numeral v.natAbs (by omega)
    have hne : Go.Lib.decDigits v.natAbs ≠ [] := by obtain ⟨c, r, e, _⟩ := hd; rw [e]; simp
    have hok := parseM_ok (2 ^ 64 - 1) (by omega) (Go.Lib.decDigits v.natAbs) 0 (decDigits_dig _) (by rw [numAcc_dec]; omega)
    rw [numAcc_dec] at hok
    simp only [Go.Lib.parseIntB]
    have h45 : (45 : UInt8).toNat = 45 := rfl
    rw [h45, if_pos (by omega)]
    simp only [Go.Lib.parseUintB]
    rw [if_neg hne, hok]
    simp only [hp]
    rw [if_neg (by omega), if_neg (by omega), if_pos trivial]
    congr 1; omega
  · rw [if_neg hn]
    have hd := dec_numeral v.toNat (by omega)
    have hok := parseM_ok (2 ^ 64 - 1) (by omega) (Go.Lib.decDigits v.toNat) 0 (decDigits_dig _) (by rw [numAcc_dec]; omega)
    rw [numAcc_dec] at hok
    obtain ⟨c, r, e, _, hdig, _⟩ := hd
    have hc := hdig c (by rw [e]; simp)
    unfold isDig at hc
    rw [e] at hok ⊢
    simp only [Go.Lib.parseIntB]
    rw [if_neg (by omega)]
    simp only [Go.Lib.parseUintB]
    rw [if_neg (by simp), hok]
    simp only [hp]
    rw [if_neg (by omega), if_neg (by omega), if_neg (by omega)]
    congr 1; omega
theorem parse_range (l : List UInt8) (v : Int) (h : Go.Lib.parseIntB 64 l = .ok v) : -9223372036854775808 ≤ v ∧ v ≤ 9223372036854775807 := by
  have hp : (2 : Nat) ^ (64 - 1) = 9223372036854775808 := by decide
  cases l with
  | nil => simp [Go.Lib.parseIntB] at h
  | cons c r =>
    simp only [Go.Lib.parseIntB, hp] at h
    generalize Go.Lib.parseUintB 64 (if c.toNat = 43 ∨ c.toNat = 45 then r else c :: r) = e at h
    cases e with
    | ok u =>
      dsimp only at h
      by_cases hn : c.toNat = 45
      · rw [if_neg (by omega)] at h
        by_cases h2 : c.toNat = 45 ∧ 9223372036854775808 < u
        · rw [if_pos h2] at h; cases h
        · rw [if_neg h2, if_pos hn] at h
          obtain rfl := Go.Lib.NumEnd.ok.inj h
          omega
      · by_cases h2 : ¬ c.toNat = 45 ∧ 9223372036854775808 ≤ u
        · rw [if_pos h2] at h; cases h
        · rw [if_neg h2, if_neg (by omega), if_neg hn] at h
          obtain rfl := Go.Lib.NumEnd.ok.inj h
          omega
    | _ => cases h
theorem itoa_size18 (v : Int) (hb : -9223372036854775808 ≤ v ∧ v ≤ 9223372036854775807) (h : (Go.Lib.itoa v).length ≤ 18 ∨ (v < 0 ∧ (Go.Lib.itoa v).length ≤ 19)) : Sm v := by
  unfold Sm
  have hpow := Go.Lib.lt_pow_nDigits v.natAbs
  have hlen : Go.Lib.nDigits v.natAbs ≤ 18 := by
    unfold Go.Lib.itoa at h
    by_cases hn : v < 0
    · rw [if_pos hn, List.length_cons, Go.Lib.decDigits_length] at h; omega
    · rw [if_neg hn, Go.Lib.decDigits_length, show v.toNat = v.natAbs by omega] at h; omega
  have h2 := Nat.lt_of_lt_of_le hpow (Nat.pow_le_pow_right (n := 10) (j := 18) (by omega) hlen)
  omega
theorem ext_zero (s : ByteArray) (a : Nat) : (s.extract 0 a).data.toList = s.data.toList.take a := by
  rw [Go.Lib.extract_data]; simp
/-- What is left of a text behind a minus. -/
theorem trim_size (s : ByteArray) (hs : s.size ≤ 140737488351232) : ∃ t, strings_TrimPrefix.f s (⟨#[45]⟩ : ByteArray) = some t ∧ t.size = if s.data.toList.head? = some 45 then s.size - 1 else s.size := by
  have hz := Go.Lib.size_eq s
  have h1 : ((⟨#[45]⟩ : ByteArray).size : Int) = 1 := rfl
  unfold strings_TrimPrefix.f stringslite_TrimPrefix.f stringslite_HasPrefix.f
  rw [h1]
  by_cases hc : (s.size : Int) ≥ 1
  · rw [if_pos hc, if_pos (by omega), if_pos (by omega), Option.bind_some]
    have e1 : ((1 : Int)).toNat = 1 := rfl
    rw [e1]
    have hx : ((s.extract 0 1).toList == (⟨#[45]⟩ : ByteArray).toList) = decide (s.data.toList.head? = some 45) := by
      have e2 : (s.extract 0 1).toList = s.data.toList.take 1 := by
        rw [Go.ByteArray.toList_eq, ext_zero]
      have e3 : (⟨#[45]⟩ : ByteArray).toList = [45] := by rw [Go.ByteArray.toList_eq]
      rw [e2, e3]
      cases hl : s.data.toList with
      | nil => rw [hl, List.length_nil] at hz; omega
      | cons c r =>
        simp only [List.take_succ_cons, List.take_zero, List.head?_cons, Option.some.injEq]
        by_cases e : c = 45 <;> simp [e]
    rw [hx]
    by_cases hh : s.data.toList.head? = some 45
    · rw [if_pos (decide_eq_true hh), if_pos (by omega), if_pos (by omega), Option.bind_some, if_pos hh]
      exact ⟨_, rfl, by rw [ByteArray.size_extract]; omega⟩
    · rw [if_neg (by simpa using hh), Option.bind_some, if_neg hh]
      exact ⟨_, rfl, rfl⟩
  · rw [if_neg hc, Option.bind_some]
    have e : s.data.toList = [] := List.length_eq_zero_iff.1 (by omega)
    rw [if_neg (by simp), Option.bind_some, e, if_neg (by simp)]
    exact ⟨_, rfl, rfl⟩
/-- The program reads the number whose numeral the text is. -/
theorem readDec_eq (s : ByteArray) (hs : s.size ≤ 140737488351232) :
    (∀ v, Sm v → Go.Lib.itoa v = s.data.toList → impl_ReadDecimal.f s = some (v, true)) ∧ ((∀ v, Sm v → Go.Lib.itoa v ≠ s.data.toList) → impl_ReadDecimal.f s = some (0, false)) := by
  have hz := Go.Lib.size_eq s
  obtain ⟨t, ht, hts⟩ := trim_size s hs
  have eL : ∀ v, (⟨(Go.Lib.itoa v).toArray⟩ : ByteArray).toList = Go.Lib.itoa v := fun v => by rw [Go.ByteArray.toList_eq]
  have eS : s.toList = s.data.toList := Go.ByteArray.toList_eq _
  unfold impl_ReadDecimal.f
  rw [if_pos (by omega), ht]
  refine ⟨fun v hv he => ?_, fun hno => ?_⟩
  · rw [← he, parse_itoa v hv]
    have hb : -9223372036854775808 ≤ v ∧ v ≤ 9223372036854775807 := by unfold Sm at hv; omega
    have h18 : ¬ (t.size : Int) > 18 := by
      unfold Sm at hv
      rw [hts, hz, ← he]
      unfold Go.Lib.itoa
      by_cases hn : v < 0
      · rw [if_pos hn]
        have hd := nDigits_pow 18 v.natAbs (by omega) (by omega)
        rw [if_pos List.head?_cons, List.length_cons, Go.Lib.decDigits_length]; omega
      · rw [if_neg hn]
        have hd := nDigits_pow 18 v.toNat (by omega) (by omega)
        split <;> rw [Go.Lib.decDigits_length] <;> omega
    simp only [Option.bind_some]
    rw [if_neg h18, Decimal_it v hb, Option.bind_some, eL, eS, he, if_pos rfl]
  · cases hp : Go.Lib.parseIntB 64 s.data.toList with
    | ok v =>
      have hb := parse_range _ _ hp
      simp only [Option.bind_some]
      by_cases h18 : (t.size : Int) > 18
      · rw [if_pos h18]
      · rw [if_neg h18, Decimal_it v hb, Option.bind_some, eL, eS]
        by_cases he : Go.Lib.itoa v = s.data.toList
        · exfalso
          refine hno v (itoa_size18 v hb ?_) he
          rw [he, ← hz]
          by_cases hh : s.data.toList.head? = some 45
          · rw [if_pos hh] at hts
            right
            refine ⟨?_, by omega⟩
            rw [← he] at hh
            unfold Go.Lib.itoa at hh
            by_cases hn : v < 0
            · exact hn
            · rw [if_neg hn] at hh
              obtain ⟨c, r, e, _⟩ := decDigits_head v.toNat
              have hd := decDigits_dig v.toNat c (by rw [e]; simp)
              rw [e] at hh
              have : c = 45 := by simpa using hh
              subst this
              unfold isDig at hd
              exact absurd hd (by decide)
          · rw [if_neg hh] at hts; left; omega
        · rw [if_neg he]
    | _ => rfl

/-- A text cut at each byte c. -/
def pcs (c : UInt8) : List UInt8 → List (List UInt8)
  | [] => [[]]
  | b :: l => if b = c then [] :: pcs c l else match pcs c l with
    | [] => [[b]]
    | p :: ps => (b :: p) :: ps
theorem pcs_free (c : UInt8) : ∀ (p : List UInt8), c ∉ p → pcs c p = [p]
  | [], _ => rfl
  | b :: l, h => by
    have h1 : b ≠ c := fun e => h (by rw [e]; exact List.mem_cons_self ..)
    rw [pcs, if_neg h1, pcs_free c l (fun hm => h (List.mem_cons_of_mem _ hm))]
theorem pcs_app (c : UInt8) (q : List UInt8) : ∀ (p : List UInt8), c ∉ p → pcs c (p ++ c :: q) = p :: pcs c q
  | [], _ => by rw [List.nil_append, pcs, if_pos rfl]
  | b :: l, h => by
    have h1 : b ≠ c := fun e => h (by rw [e]; exact List.mem_cons_self ..)
    rw [List.cons_append, pcs, if_neg h1, pcs_app c q l (fun hm => h (List.mem_cons_of_mem _ hm))]
/-- A text is free of a byte, or has a first one. -/
theorem first_of (c : UInt8) : ∀ (l : List UInt8), c ∉ l ∨ ∃ p q, l = p ++ c :: q ∧ c ∉ p
  | [] => .inl (by simp)
  | b :: l => by
    by_cases e : b = c
    · exact .inr ⟨[], l, by rw [e]; rfl, by simp⟩
    · rcases first_of c l with h | ⟨p, q, rfl, hp⟩
      · exact .inl (by intro hm; rcases List.mem_cons.1 hm with h1 | h1; exact e h1.symm; exact h h1)
      · exact .inr ⟨b :: p, q, rfl, by intro hm; rcases List.mem_cons.1 hm with h1 | h1; exact e h1.symm; exact hp h1⟩
theorem idx_free (c : UInt8) : ∀ (p : List UInt8), c ∉ p → Go.Lib.index p [c] = -1 := by
  intro p h
  rw [Go.Lib.index_one]
  induction p with
  | nil => rfl
  | cons b l ih =>
    have h1 : b ≠ c := fun e => h (by rw [e]; exact List.mem_cons_self ..)
    rw [Go.Lib.indexByte, ih (fun hm => h (List.mem_cons_of_mem _ hm)), if_neg (by simpa using h1), if_pos (by decide)]
theorem idx_app (c : UInt8) (q : List UInt8) : ∀ (p : List UInt8), c ∉ p → Go.Lib.index (p ++ c :: q) [c] = (p.length : Int) := by
  intro p h
  rw [Go.Lib.index_one]
  induction p with
  | nil => rw [List.nil_append, Go.Lib.indexByte, if_pos (by simp)]; rfl
  | cons b l ih =>
    have h1 : b ≠ c := fun e => h (by rw [e]; exact List.mem_cons_self ..)
    rw [List.cons_append, Go.Lib.indexByte, ih (fun hm => h (List.mem_cons_of_mem _ hm)), if_neg (by simpa using h1), if_neg (by rw [beq_iff_eq]; omega), List.length_cons]
    omega
theorem pcs_pos (c : UInt8) (l : List UInt8) : 1 ≤ (pcs c l).length := by
  rcases first_of c l with h | ⟨p, q, rfl, hp⟩
  · rw [pcs_free c l h]; simp
  · rw [pcs_app c q p hp]; simp
/-- The library's cuts, at most k. -/
theorem splitK_pcs (c : UInt8) : ∀ (k : Nat) (l : List UInt8), ((pcs c l).length ≤ k + 1 → Go.Lib.splitK [c] 0 k l = pcs c l) ∧
    (k + 1 < (pcs c l).length → ∃ ps r, Go.Lib.splitK [c] 0 k l = ps ++ [r] ∧ ps.length = k ∧ c ∈ r)
  | 0, l => by
    rcases first_of c l with h | ⟨p, q, rfl, hp⟩
    · rw [pcs_free c l h]; exact ⟨fun _ => rfl, fun h => by simp at h⟩
    · rw [pcs_app c q p hp]
      have := pcs_pos c q
      exact ⟨fun h => by rw [List.length_cons] at h; omega, fun _ => ⟨[], _, rfl, rfl, by simp⟩⟩
  | k + 1, l => by
    rcases first_of c l with h | ⟨p, q, rfl, hp⟩
    · rw [pcs_free c l h]
      refine ⟨fun _ => ?_, fun h => by simp at h⟩
      rw [Go.Lib.splitK, if_pos (by rw [idx_free c l h]; rfl)]
    · obtain ⟨i1, i2⟩ := splitK_pcs c k q
      have e : Go.Lib.splitK [c] 0 (k + 1) (p ++ c :: q) = p :: Go.Lib.splitK [c] 0 k q := by
        rw [Go.Lib.splitK, if_neg (by rw [idx_app c q p hp, beq_iff_eq]; omega), idx_app c q p hp, Int.toNat_natCast, Nat.add_zero, List.take_left' rfl]
        congr 2
        rw [← List.drop_drop, List.drop_left' rfl]; rfl
      rw [pcs_app c q p hp, e]
      refine ⟨fun h => by rw [i1 (by rw [List.length_cons] at h; omega)], fun h => ?_⟩
      obtain ⟨ps, r, e1, e2, e3⟩ := i2 (by rw [List.length_cons] at h; omega)
      exact ⟨p :: ps, r, by rw [e1]; rfl, by rw [List.length_cons, e2], e3⟩
theorem pcs_count (c : UInt8) : ∀ (n : Nat) (l : List UInt8), l.length ≤ n → (pcs c l).length = Go.Lib.count l [c] + 1
  | n, l, hn => by
    rcases first_of c l with h | ⟨p, q, rfl, hp⟩
    · rw [pcs_free c l h, Go.Lib.count_miss (idx_free c l h)]; rfl
    · have e : (p ++ c :: q).drop (p.length + [c].length) = q := by rw [← List.drop_drop, List.drop_left' rfl]; rfl
      rw [pcs_app c q p hp, Go.Lib.count_hit (by simp) (idx_app c q p hp), e, List.length_cons]
      have hq : q.length < (p ++ c :: q).length := by simp; omega
      match n, hn with
      | 0, hn => omega
      | n + 1, hn => rw [pcs_count c n q (by omega)]; omega
/-- The pieces joined again. -/
theorem join_pcs (c : UInt8) : ∀ (n : Nat) (l : List UInt8), l.length ≤ n → Go.Lib.join (pcs c l) [c] = l
  | n, l, hn => by
    rcases first_of c l with h | ⟨p, q, rfl, hp⟩
    · rw [pcs_free c l h, Go.Lib.join_one]
    · rw [pcs_app c q p hp]
      have hq : q.length < (p ++ c :: q).length := by simp; omega
      match n, hn with
      | 0, hn => omega
      | n + 1, hn =>
        have ih := join_pcs c n q (by omega)
        have hne : pcs c q ≠ [] := fun e => by have := pcs_pos c q; rw [e] at this; simp at this
        obtain ⟨x, r, e⟩ := List.exists_cons_of_ne_nil hne
        rw [e] at ih ⊢
        rw [Go.Lib.join_cons] at ih ⊢
        rw [Go.Lib.joinTail, List.map_cons, List.flatten_cons]
        rw [Go.Lib.joinTail] at ih
        rw [List.append_assoc, ih]; rfl
theorem pcs_mem (c : UInt8) : ∀ (n : Nat) (l : List UInt8), l.length ≤ n → ∀ p ∈ pcs c l, c ∉ p ∧ p.length ≤ l.length
  | n, l, hn => by
    rcases first_of c l with h | ⟨p, q, rfl, hp⟩
    · rw [pcs_free c l h]; intro p hm; rw [List.mem_singleton.1 hm]; exact ⟨h, Nat.le_refl _⟩
    · rw [pcs_app c q p hp]
      have hq : q.length < (p ++ c :: q).length := by simp; omega
      match n, hn with
      | 0, hn => omega
      | n + 1, hn =>
        intro x hx
        rcases List.mem_cons.1 hx with rfl | hx
        · exact ⟨hp, by simp⟩
        · obtain ⟨h1, h2⟩ := pcs_mem c n q (by omega) x hx
          exact ⟨h1, by omega⟩
theorem pcs_len (c : UInt8) : ∀ (n : Nat) (l : List UInt8), l.length ≤ n → (pcs c l).length ≤ l.length + 1
  | n, l, hn => by
    rcases first_of c l with h | ⟨p, q, rfl, hp⟩
    · rw [pcs_free c l h]; simp
    · rw [pcs_app c q p hp]
      have hq : q.length < (p ++ c :: q).length := by simp; omega
      match n, hn with
      | 0, hn => omega
      | n + 1, hn => have := pcs_len c n q (by omega); rw [List.length_cons]; omega
/-- A text of its bytes. -/
def toB (l : List UInt8) : ByteArray := ⟨l.toArray⟩
theorem toB_data (s : ByteArray) : toB s.data.toList = s := by cases s; rfl
theorem data_toB (l : List UInt8) : (toB l).data.toList = l := rfl
theorem toB_size (l : List UInt8) : (toB l).size = l.length := by rw [Go.Lib.size_eq]; rfl
theorem ba_eq {a b : ByteArray} (h : a.data.toList = b.data.toList) : a = b := by rw [← toB_data a, ← toB_data b, h]
theorem map_toB (xs : List ByteArray) (ps : List (List UInt8)) (h : xs.map (·.data.toList) = ps) : xs = ps.map toB := by
  rw [← h, List.map_map]
  exact (List.map_id xs).symm.trans (List.map_congr_left fun x _ => (toB_data x).symm)
theorem extract_toB (s : ByteArray) (a b : Nat) : s.extract a b = toB ((s.data.toList.drop a).take (b - a)) := by
  refine ba_eq ?_
  rw [Go.Lib.extract_data, data_toB]
theorem splitB_pcs (c : UInt8) (s : ByteArray) : Go.Lib.splitB (toB [c]) 0 (Go.Lib.countB s (toB [c])) s = (pcs c s.data.toList).map toB := by
  refine map_toB _ _ ?_
  rw [Go.Lib.splitB_data]
  exact (splitK_pcs c _ _).1 (by rw [pcs_count c _ _ (Nat.le_refl _)]; exact Nat.le_refl _)

theorem itoa_inj (v w : Int) (hv : Sm v) (hw : Sm w) (he : Go.Lib.itoa v = Go.Lib.itoa w) : v = w := by
  have e1 := parse_itoa v hv
  rw [he, parse_itoa w hw] at e1
  exact (Go.Lib.NumEnd.ok.inj e1).symm
theorem itoas_inj : ∀ (vs ws : List Int), (∀ v ∈ vs, Sm v) → (∀ v ∈ ws, Sm v) → vs.map Go.Lib.itoa = ws.map Go.Lib.itoa → vs = ws
  | [], [], _, _, _ => rfl
  | [], _ :: _, _, _, h => by cases h
  | _ :: _, [], _, _, h => by cases h
  | v :: vs, w :: ws, h1, h2, h => by
    obtain ⟨e1, e2⟩ := List.cons.inj h
    rw [itoa_inj v w (h1 v (List.mem_cons_self ..)) (h2 w (List.mem_cons_self ..)) e1, itoas_inj vs ws (fun x hx => h1 x (List.mem_cons_of_mem _ hx)) (fun x hx => h2 x (List.mem_cons_of_mem _ hx)) e2]
theorem splitK_len (c : UInt8) : ∀ (k : Nat) (l : List UInt8), ∀ p ∈ Go.Lib.splitK [c] 0 k l, p.length ≤ l.length
  | 0, l, p, h => by
    rw [Go.Lib.splitK, List.mem_singleton] at h
    rw [h]; exact Nat.le_refl _
  | k + 1, l, p, h => by
    rw [Go.Lib.splitK] at h
    by_cases c1 : (Go.Lib.index l [c] == -1) = true
    · rw [if_pos c1, List.mem_singleton] at h
      rw [h]; exact Nat.le_refl _
    · rw [if_neg c1] at h
      rcases List.mem_cons.1 h with h | h
      · rw [h, List.length_take]; omega
      · have := splitK_len c k _ p h
        rw [List.length_drop] at this; omega
/-- What a number of the reference is: the value, where the text is a numeral of at most 18 digits. -/
theorem num_of (l : List UInt8) (hl : l.length ≤ 1048576) :
    (∃ v, Sm v ∧ Go.Lib.itoa v = l ∧ (∀ k, 40 ≤ k → spec_l01Number.f k (toB l) = some (v, true)) ∧ impl_ReadDecimal.f (toB l) = some (v, true)) ∨
    ((∀ v, Sm v → Go.Lib.itoa v ≠ l) ∧ (∀ k, 40 ≤ k → spec_l01Number.f k (toB l) = some (0, false)) ∧ impl_ReadDecimal.f (toB l) = some (0, false)) := by
  have hs : (toB l).size ≤ 140737488351232 := by rw [toB_size]; omega
  obtain ⟨h1, h2⟩ := readDec_eq (toB l) hs
  by_cases hx : ∃ v, Sm v ∧ Go.Lib.itoa v = l
  · obtain ⟨v, hv, he⟩ := hx
    refine .inl ⟨v, hv, he, fun k hk => ?_, h1 v hv he⟩
    rcases number_eq (toB l) hs k hk with ⟨w, hw, he', hf⟩ | ⟨hno, _⟩
    · rw [data_toB] at he'
      rw [hf, itoa_inj w v hw hv (he'.trans he.symm)]
    · exact absurd he (hno v hv)
  · refine .inr ⟨fun v hv he => hx ⟨v, hv, he⟩, fun k hk => ?_, h2 fun v hv he => hx ⟨v, hv, he⟩⟩
    rcases number_eq (toB l) hs k hk with ⟨w, hw, he', _⟩ | ⟨_, hf⟩
    · exact absurd ⟨w, hw, he'⟩ hx
    · exact hf
theorem itoa_bytes (v : Int) : ∀ c ∈ Go.Lib.itoa v, c = 45 ∨ isDig c := by
  intro c hc
  unfold Go.Lib.itoa at hc
  split at hc
  · rcases List.mem_cons.1 hc with h | h
    · exact .inl h
    · exact .inr (decDigits_dig _ c h)
  · exact .inr (decDigits_dig _ c hc)

theorem within_eq (a b c : Int) : impl_within.f a b c = some (decide (b ≤ a ∧ a ≤ c)) := by
  unfold impl_within.f
  by_cases h : a ≥ b <;> simp [h]

theorem toB_app (a b : List UInt8) : toB a ++ toB b = toB (a ++ b) := by
  refine ba_eq ?_
  unfold toB
  simp [ByteArray.data_append]
theorem join_snoc (sep y : List UInt8) (xs : List (List UInt8)) (h : xs ≠ []) : Go.Lib.join (xs ++ [y]) sep = Go.Lib.join xs sep ++ sep ++ y := by
  obtain ⟨x, r, rfl⟩ := List.exists_cons_of_ne_nil h
  rw [List.cons_append, Go.Lib.join_cons, Go.Lib.join_cons]
  unfold Go.Lib.joinTail
  simp
/-- The numerals of a list of numbers, with commas. -/
def numsText (l : List Int) : List UInt8 := Go.Lib.join (l.map Go.Lib.itoa) [44]
def I64 (v : Int) : Prop := -9223372036854775808 ≤ v ∧ v ≤ 9223372036854775807
theorem numsText_snoc (l : List Int) (v : Int) (h : l ≠ []) : numsText (l ++ [v]) = numsText l ++ 44 :: Go.Lib.itoa v := by
  unfold numsText
  rw [List.map_append, List.map_singleton, join_snoc _ _ _ (by simpa using h), List.append_assoc]; rfl
theorem numsText_one (v : Int) : numsText [v] = Go.Lib.itoa v := by unfold numsText; rw [List.map_singleton, Go.Lib.join_one]
theorem itoa_len (v : Int) (h : I64 v) : (Go.Lib.itoa v).length ≤ 32 := by
  have := itoa_size2 v h
  rwa [show (⟨(Go.Lib.itoa v).toArray⟩ : ByteArray).size = (Go.Lib.itoa v).length from List.size_toArray ..] at this
theorem numsText_len (n : Nat) : ∀ (l : List Int), l.length ≤ n → (∀ v ∈ l, I64 v) → (numsText l).length ≤ 33 * l.length := by
  induction n with
  | zero =>
    intro l h _
    obtain rfl := List.length_eq_zero_iff.1 (Nat.le_zero.1 h)
    exact Nat.le_refl _
  | succ n ih =>
    intro l h hv
    rcases List.eq_nil_or_concat l with rfl | ⟨m, x, rfl⟩
    · exact Nat.zero_le _
    · rw [List.concat_eq_append] at h hv ⊢
      have hx := itoa_len x (hv x (by simp))
      have hm := ih m (by simp at h; omega) (fun v hm => hv v (by simp [hm]))
      by_cases e : m = []
      · subst e; rw [List.nil_append, numsText_one]; simp; omega
      · rw [numsText_snoc m x e, List.length_append, List.length_cons, List.length_append, List.length_singleton]; omega
/-- In the list's range. -/
def Mv (v : Int) : Prop := -1000000000000 ≤ v ∧ v ≤ 1000000000000
instance MvDec (v : Int) : Decidable (Mv v) := by unfold Mv; infer_instance
/-- A list's text. -/
def listTxt (l : List Int) : ByteArray := if 64 < l.length then toB [] else if l = [] then toB [45] else if ∀ v ∈ l, Mv v then toB (numsText l) else toB []
theorem join_toB (l : List Int) : joined (l.map fun v => toB (Go.Lib.itoa v)) (toB [44]) = numsText l := by
  unfold joined numsText
  rw [List.map_map]
  rfl
theorem lt_l0 (l : List Int) (h1 : l.length ≤ 64) (hv : ∀ v ∈ l, I64 v) (d : Nat) : ∀ (k i : Nat), l.length = i + d → d < k → (∀ v ∈ l.take i, Mv v) →
    impl_ListText.l0 k ((l.take i).map fun v => toB (Go.Lib.itoa v)) l l.length i = some (if ∀ v ∈ l, Mv v then toB (numsText l) else toB []) := by
  induction d with
  | zero =>
    intro k i hd hk ht
    obtain ⟨k, rfl⟩ : ∃ m, k = m + 1 := ⟨k - 1, by omega⟩
    have e1 : ¬ (i : Int) < (l.length : Int) := by omega
    have hl := numsText_len l.length l (Nat.le_refl _) hv
    rw [List.take_of_length_le (by omega)] at ht ⊢
    simp only [impl_ListText.l0]
    rw [if_neg e1, if_pos ht]
    unfold strings_Join.f
    rw [show (⟨#[44]⟩ : ByteArray) = toB [44] from rfl, join_toB, if_pos ⟨by rw [List.length_map]; omega, by omega⟩]
    rfl
  | succ d ih =>
    intro k i hd hk ht
    obtain ⟨k, rfl⟩ : ∃ m, k = m + 1 := ⟨k - 1, by omega⟩
    have hi : i < l.length := by omega
    have e1 : (i : Int) < (l.length : Int) := by omega
    have e2 : 0 ≤ (i : Int) := by omega
    have ew : wrap64 ((i : Int) + 1) = ((i + 1 : Nat) : Int) := by rw [wr (n := (i : Int) + 1) (by omega)]; omega
    have er : rd l (i : Int) = l[i] := by unfold rd; rw [Int.toNat_natCast, List.getD_eq_getElem?_getD, List.getElem?_eq_getElem hi]; rfl
    have hx := hv l[i] (List.getElem_mem hi)
    simp only [impl_ListText.l0]
    rw [if_pos e1, if_pos e2, if_pos e1, er, within_eq, Option.bind_some]
    by_cases hm : Mv l[i]
    · rw [decide_eq_true (show -1000000000000 ≤ l[i] ∧ l[i] ≤ 1000000000000 from hm), if_pos rfl, Decimal_it _ hx, Option.bind_some, if_pos (by rw [List.length_map, List.length_take]; omega), ew]
      have h := ih k (i + 1) (by omega) (by omega) (by
        intro v hvm
        rw [List.take_succ_eq_append_getElem hi] at hvm
        rcases List.mem_append.1 hvm with h | h
        · exact ht v h
        · rw [List.mem_singleton.1 h]; exact hm)
      rw [List.take_succ_eq_append_getElem hi, List.map_append, List.map_singleton] at h
      exact h
    · rw [decide_eq_false (show ¬ (-1000000000000 ≤ l[i] ∧ l[i] ≤ 1000000000000) from hm), if_neg (by simp), if_neg (fun h => hm (h _ (List.getElem_mem hi)))]
      rfl
theorem ListText_eq (k : Nat) (l : List Int) (hl : l.length ≤ 1048576) (hv : ∀ v ∈ l, I64 v) (hk : 70 < k) : impl_ListText.f k l = some (listTxt l) := by
  unfold impl_ListText.f listTxt
  by_cases h1 : (l.length : Int) > 64
  · rw [if_pos h1, if_pos (by omega)]; rfl
  · rw [if_neg h1, if_neg (show ¬ 64 < l.length by omega)]
    by_cases h2 : (l.length : Int) = 0
    · rw [if_pos h2, if_pos (List.length_eq_zero_iff.1 (by omega))]; rfl
    · rw [if_neg h2, if_neg (show ¬ l = [] from fun e => h2 (by rw [e]; rfl)), if_pos (by omega), if_pos (by omega)]
      have := lt_l0 l (by omega) hv l.length k 0 (by omega) (by omega) (by simp)
      rw [List.take_zero, List.map_nil] at this
      exact this

/-- The reference's pieces. -/
theorem split_l0 (s : ByteArray) (c : UInt8) (hs : s.size ≤ 1048576) (d : Nat) : ∀ (k i a : Nat) (acc : List ByteArray), s.data.toList.length = i + d → d < k → a ≤ i → acc.length ≤ i → c ∉ (s.data.toList.drop a).take (i - a) →
    spec_l01Split.l0 k s (c.toNat : Int) acc a i = some (acc ++ (pcs c (s.data.toList.drop a)).map toB) := by
  have hz := Go.Lib.size_eq s
  induction d with
  | zero =>
    intro k i a acc hd hk ha hacc hf
    obtain ⟨k, rfl⟩ : ∃ m, k = m + 1 := ⟨k - 1, by omega⟩
    have e1 : ¬ (i : Int) < (s.size : Int) := by omega
    have e2 : 0 ≤ (a : Int) := by omega
    have e3 : (a : Int) ≤ (s.size : Int) := by omega
    have e4 : acc.length < 8796093022208 := by omega
    rw [List.take_of_length_le (by rw [List.length_drop]; omega)] at hf
    simp only [spec_l01Split.l0]
    rw [if_neg e1, if_pos e2, if_pos e3, if_pos e4, Int.toNat_natCast, extract_toB, pcs_free c _ hf, List.take_of_length_le (by rw [List.length_drop]; omega)]
    rfl
  | succ d ih =>
    intro k i a acc hd hk ha hacc hf
    obtain ⟨k, rfl⟩ : ∃ m, k = m + 1 := ⟨k - 1, by omega⟩
    have hi : i < s.data.toList.length := by omega
    have e1 : (i : Int) < (s.size : Int) := by omega
    have e2 : 0 ≤ (i : Int) := by omega
    have e3 : 0 ≤ (a : Int) := by omega
    have e4 : (a : Int) ≤ (i : Int) := by omega
    have e5 : (i : Int) ≤ (s.size : Int) := by omega
    have e6 : acc.length < 8796093022208 := by omega
    have ew : wrap64 ((i : Int) + 1) = ((i + 1 : Nat) : Int) := by rw [wr (n := (i : Int) + 1) (by omega)]; omega
    have eb := bt_get s i hi
    have edrop : (s.data.toList.drop a).drop (i - a) = s.data.toList[i] :: s.data.toList.drop (i + 1) := by
      rw [List.drop_drop, show a + (i - a) = i by omega, List.drop_eq_getElem_cons hi]
    have esplit : s.data.toList.drop a = (s.data.toList.drop a).take (i - a) ++ s.data.toList[i] :: s.data.toList.drop (i + 1) := by rw [← edrop, List.take_append_drop]
    simp only [spec_l01Split.l0]
    rw [if_pos e1, if_pos e2, eb, ew]
    by_cases hc : s.data.toList[i] = c
    · rw [if_pos (by rw [hc]), if_pos e3, if_pos e4, if_pos e5, if_pos e6]
      have h1 := ih k (i + 1) (i + 1) (acc ++ [s.extract (a : Int).toNat (i : Int).toNat]) (by omega) (by omega) (Nat.le_refl _) (by simp; omega) (by rw [Nat.sub_self]; simp)
      rw [h1]
      conv => rhs; rw [esplit]
      rw [hc, pcs_app c _ _ hf, Int.toNat_natCast, Int.toNat_natCast, extract_toB, List.map_cons, List.append_assoc]; rfl
    · rw [if_neg (by intro h; exact hc (UInt8.toNat_inj.1 (by omega)))]
      refine ih k (i + 1) a acc (by omega) (by omega) (by omega) (by omega) ?_
      have e7 : (s.data.toList.drop a).take (i + 1 - a) = (s.data.toList.drop a).take (i - a) ++ [s.data.toList[i]] := by
        rw [show i + 1 - a = (i - a) + 1 by omega, List.take_succ_eq_append_getElem (by rw [List.length_drop]; omega)]
        congr 2
        rw [List.getElem_drop]
        congr 1; omega
      rw [e7]
      intro hm
      rcases List.mem_append.1 hm with h | h
      · exact hf h
      · exact hc (List.mem_singleton.1 h).symm
theorem split_eq (s : ByteArray) (c : UInt8) (n : Int) (hn : n = (c.toNat : Int)) (hs : s.size ≤ 1048576) (k : Nat) (hk : 1048578 < k) : spec_l01Split.f k s n = some ((pcs c s.data.toList).map toB) := by
  have hz := Go.Lib.size_eq s
  unfold spec_l01Split.f
  subst hn
  have := split_l0 s c hs s.data.toList.length k 0 0 [] (by omega) (by omega) (Nat.le_refl _) (by simp) (by simp)
  rw [List.drop_zero, List.nil_append] at this
  exact this

/-- The numbers from m on, n of them. -/
def seqI : Nat → Int → List Int
  | 0, _ => []
  | n + 1, m => m :: seqI n (m + 1)
theorem seqI_length (n : Nat) : ∀ m, (seqI n m).length = n := by
  induction n with
  | zero => intro m; rfl
  | succ n ih => intro m; simp [seqI, ih]
theorem mark_l0 (d : Nat) : ∀ (k i : Nat) (m : Int) (pre post : List Int), pre.length = i → post.length = d → i + d ≤ 1048576 → 0 ≤ m → m + d ≤ 2000000 → d < k →
    laws_markInt64S.l0 k (pre ++ post) m i = some (m + d, pre ++ seqI d m) := by
  induction d with
  | zero =>
    intro k i m pre post h2 h3 h4 h5 h6 hk
    obtain ⟨k, rfl⟩ : ∃ m, k = m + 1 := ⟨k - 1, by omega⟩
    obtain rfl := List.length_eq_zero_iff.1 h3
    simp only [laws_markInt64S.l0]; rw [if_neg (by simp; omega)]; simp [seqI]
  | succ d ih =>
    intro k i m pre post h2 h3 h4 h5 h6 hk
    obtain ⟨k, rfl⟩ : ∃ m, k = m + 1 := ⟨k - 1, by omega⟩
    cases post with
    | nil => simp at h3
    | cons x post =>
      have hp : post.length = d := by simpa using h3
      have hlen : (pre ++ x :: post).length = i + d + 1 := by simp; omega
      simp only [laws_markInt64S.l0]
      rw [if_pos (by omega), if_pos (by omega), wr (n := m + 1) (by omega), wr (n := (i : Int) + 1) (by omega), Int.toNat_natCast, List.set_append_right _ _ (by omega), h2, Nat.sub_self, List.set_cons_zero, show ((i : Int) + 1) = ((i + 1 : Nat) : Int) by omega]
      have := ih k (i + 1) (m + 1) (pre ++ [m]) post (by simp [h2]) hp (by omega) (by omega) (by omega) (by omega)
      rw [List.append_assoc] at this
      rw [show m :: post = [m] ++ post from rfl, this]
      congr 2
      · omega
      · simp [seqI]
theorem mark_eq (k : Nat) (l : List Int) (hl : l.length ≤ 1048576) (hk : l.length < k) : laws_markInt64S.f k l 1 = some (1 + (l.length : Int), seqI l.length 1) := by
  unfold laws_markInt64S.f
  have := mark_l0 l.length k 0 1 [] l rfl rfl (by omega) (by omega) (by omega) hk
  simpa using this
theorem held_l0 (d : Nat) : ∀ (k i : Nat) (m : Int) (pre : List Int), pre.length = i → i + d ≤ 1048576 → 0 ≤ m → m + d ≤ 2000000 → d < k →
    laws_heldInt64S.l0 k (pre ++ seqI d m) m i = some (m + d) := by
  induction d with
  | zero =>
    intro k i m pre h2 h4 h5 h6 hk
    obtain ⟨k, rfl⟩ : ∃ m, k = m + 1 := ⟨k - 1, by omega⟩
    have hl : (pre ++ seqI 0 m).length = i := by simp [seqI, h2]
    simp only [laws_heldInt64S.l0]; rw [if_neg (by omega)]; simp
  | succ d ih =>
    intro k i m pre h2 h4 h5 h6 hk
    obtain ⟨k, rfl⟩ : ∃ m, k = m + 1 := ⟨k - 1, by omega⟩
    have hlen : (pre ++ seqI (d + 1) m).length = i + d + 1 := by rw [List.length_append, seqI_length]; omega
    have hr : rd (pre ++ seqI (d + 1) m) i = m := by
      unfold rd
      rw [Int.toNat_natCast, List.getD_eq_getElem?_getD, List.getElem?_append_right (by omega), h2, Nat.sub_self]
      rfl
    simp only [laws_heldInt64S.l0]
    rw [if_pos (by omega), if_pos (by omega), if_pos hr, wr (n := m + 1) (by omega), wr (n := (i : Int) + 1) (by omega), show ((i : Int) + 1) = ((i + 1 : Nat) : Int) by omega]
    have := ih k (i + 1) (m + 1) (pre ++ [m]) (by simp [h2]) (by omega) (by omega) (by omega) (by omega)
    rw [List.append_assoc] at this
    rw [show seqI (d + 1) m = [m] ++ seqI d (m + 1) from rfl, this]
    congr 1; omega
theorem held_eq (k n : Nat) (hl : n ≤ 1048576) (hk : n < k) : laws_heldInt64S.f k (seqI n 1) 1 = some (1 + (n : Int)) := by
  unfold laws_heldInt64S.f
  have := held_l0 n k 0 1 [] rfl (by omega) (by omega) (by omega) hk
  simpa using this

theorem eqInts_l0 (a b : List Int) (hl : a.length ≤ 1048576) (he : a.length = b.length) (d : Nat) : ∀ (k i : Nat), a.length = i + d → d < k →
    ∃ r, laws_eqInt64S.l0 k a b i = some r ∧ (r = true ↔ ∀ j : Nat, i ≤ j → j < a.length → rd a j = rd b j) := by
  induction d with
  | zero =>
    intro k i hd hk
    obtain ⟨k, rfl⟩ : ∃ m, k = m + 1 := ⟨k - 1, by omega⟩
    exact ⟨true, by simp only [laws_eqInt64S.l0]; rw [if_neg (by omega)], by simp; intro j h1 h2; omega⟩
  | succ d ih =>
    intro k i hd hk
    obtain ⟨k, rfl⟩ : ∃ m, k = m + 1 := ⟨k - 1, by omega⟩
    simp only [laws_eqInt64S.l0]
    rw [if_pos (by omega), if_pos (by omega), if_pos (by omega), wr (n := (i : Int) + 1) (by omega), show ((i : Int) + 1) = ((i + 1 : Nat) : Int) by omega]
    obtain ⟨r, hr, hiff⟩ := ih k (i + 1) (by omega) (by omega)
    by_cases hc : rd a i = rd b i
    · refine ⟨r, by rw [if_pos hc, hr], ?_⟩
      rw [hiff]
      constructor
      · intro h j h1 h2
        by_cases e : j = i
        · subst e; exact hc
        · exact h j (by omega) h2
      · intro h j h1 h2; exact h j (by omega) h2
    · exact ⟨false, by rw [if_neg hc], by simp; exact ⟨i, by omega, by omega, hc⟩⟩
theorem rd_nat (l : List Int) (j : Nat) : rd l j = l.getD j 0 := rfl
theorem rd_lt (l : List Int) (j : Nat) (h : j < l.length) : rd l j = l[j] := by rw [rd_nat]; simp [List.getD_eq_getElem?_getD, h]
theorem eqInts_eq (k : Nat) (a b : List Int) (hl : a.length ≤ 1048576) (hk : a.length < k) : laws_eqInt64S.f k a b = some (decide (a = b)) := by
  unfold laws_eqInt64S.f
  by_cases h : (a.length : Int) = (b.length : Int)
  · rw [if_pos h]
    obtain ⟨r, hr, hiff⟩ := eqInts_l0 a b hl (by omega) a.length k 0 (by omega) hk
    rw [show ((0 : Int)) = ((0 : Nat) : Int) by rfl, hr]; congr 1; rw [Bool.eq_iff_iff, hiff, decide_eq_true_iff]
    constructor
    · intro hh
      apply List.ext_getElem (by omega)
      intro j h1 h2
      have := hh j (by omega) h1
      rwa [rd_lt a j h1, rd_lt b j h2] at this
    · rintro rfl j _ _; rfl
  · rw [if_neg h]; congr 1; symm; rw [decide_eq_false_iff_not]; rintro rfl; exact h rfl
theorem eqInts_self (k : Nat) (a : List Int) (hl : a.length ≤ 1048576) (hk : a.length < k) : laws_eqInt64S.f k a a = some true := by
  rw [eqInts_eq k a a hl hk]; simp

theorem l00In_eq (a b c : Int) : spec_l00In.f a b c = some (decide (b ≤ a ∧ a ≤ c)) := by
  unfold spec_l00In.f
  by_cases h : a ≥ b <;> simp [h]

/-- A numeral in the list's range. -/
def numL (l : List UInt8) : Prop := ∃ v, Mv v ∧ Go.Lib.itoa v = l
theorem Mv_Sm {v : Int} (h : Mv v) : Sm v := by unfold Mv at h; unfold Sm; omega
theorem Sm_I64 {v : Int} (h : Sm v) : I64 v := by unfold Sm at h; unfold I64; omega
theorem rdOf_nat (ps : List (List UInt8)) (i : Nat) (hi : i < ps.length) : rdOf ByteArray.empty (ps.map toB) (i : Int) = toB ps[i] := by
  unfold rdOf
  rw [Int.toNat_natCast, List.getD_eq_getElem?_getD, List.getElem?_map, List.getElem?_eq_getElem hi]; rfl
/-- The reference's loop: all numerals in range, or nothing. -/
theorem spec_rl_l0 (ps : List (List UInt8)) (hp : ps.length ≤ 64) (hl : ∀ p ∈ ps, p.length ≤ 1048576) (d : Nat) : ∀ (k i : Nat) (acc : List Int), ps.length = i + d → 50 + d < k → acc.length = i →
    (∃ vs : List Int, (∀ v ∈ vs, Mv v) ∧ vs.map Go.Lib.itoa = ps.drop i ∧ spec_ReadList.l0 k (ps.map toB) acc i = some (acc ++ vs, true)) ∨
    ((¬ ∃ vs : List Int, (∀ v ∈ vs, Mv v) ∧ vs.map Go.Lib.itoa = ps.drop i) ∧ spec_ReadList.l0 k (ps.map toB) acc i = some ([], false)) := by
  induction d with
  | zero =>
    intro k i acc hd hk ha
    obtain ⟨k, rfl⟩ : ∃ m, k = m + 1 := ⟨k - 1, by omega⟩
    have e1 : ¬ (i : Int) < ((ps.map toB).length : Int) := by rw [List.length_map]; omega
    refine .inl ⟨[], by simp, by rw [List.drop_eq_nil_of_le (by omega)]; rfl, ?_⟩
    simp only [spec_ReadList.l0]
    rw [if_neg e1, List.append_nil]
  | succ d ih =>
    intro k i acc hd hk ha
    obtain ⟨k, rfl⟩ : ∃ m, k = m + 1 := ⟨k - 1, by omega⟩
    have hi : i < ps.length := by omega
    have e1 : (i : Int) < ((ps.map toB).length : Int) := by rw [List.length_map]; omega
    have e2 : 0 ≤ (i : Int) := by omega
    have ew : wrap64 ((i : Int) + 1) = ((i + 1 : Nat) : Int) := by rw [wr (n := (i : Int) + 1) (by omega)]; omega
    have edrop := List.drop_eq_getElem_cons hi
    simp only [spec_ReadList.l0]
    rw [if_pos e1, if_pos e2, rdOf_nat ps i hi]
    rcases num_of ps[i] (hl _ (List.getElem_mem hi)) with ⟨v, hv, he, hf, _⟩ | ⟨hno, hf, _⟩
    · rw [hf k (by omega), Option.bind_some]
      dsimp only
      rw [if_pos rfl, l00In_eq, Option.bind_some]
      by_cases hm : Mv v
      · rw [decide_eq_true (show -1000000000000 ≤ v ∧ v ≤ 1000000000000 from hm), if_pos rfl, if_pos (by omega), ew]
        rcases ih k (i + 1) (acc ++ [v]) (by omega) (by omega) (by simp; omega) with ⟨vs, h1, h2, h3⟩ | ⟨h1, h2⟩
        · refine .inl ⟨v :: vs, ?_, by rw [List.map_cons, he, h2, edrop], by rw [h3, List.append_assoc]; rfl⟩
          intro x hx
          rcases List.mem_cons.1 hx with rfl | hx
          · exact hm
          · exact h1 x hx
        · refine .inr ⟨fun ⟨vs, h3, h4⟩ => h1 ?_, h2⟩
          rw [edrop] at h4
          cases vs with
          | nil => cases h4
          | cons x xs => exact ⟨xs, fun y hy => h3 y (List.mem_cons_of_mem _ hy), (List.cons.inj h4).2⟩
      · rw [decide_eq_false (show ¬ (-1000000000000 ≤ v ∧ v ≤ 1000000000000) from hm), if_neg (by simp)]
        refine .inr ⟨fun ⟨vs, h3, h4⟩ => ?_, rfl⟩
        rw [edrop] at h4
        cases vs with
        | nil => cases h4
        | cons x xs =>
          have hx := h3 x (List.mem_cons_self ..)
          have e := (List.cons.inj h4).1
          have : x = v := itoa_inj x v (Mv_Sm hx) hv (e.trans he.symm)
          exact hm (this ▸ hx)
    · rw [hf k (by omega), Option.bind_some]
      dsimp only
      rw [if_neg (by simp)]
      refine .inr ⟨fun ⟨vs, h3, h4⟩ => ?_, rfl⟩
      rw [edrop] at h4
      cases vs with
      | nil => cases h4
      | cons x xs => exact hno x (Mv_Sm (h3 x (List.mem_cons_self ..))) (List.cons.inj h4).1
/-- The program's loop: it reads numerals, whatever their size, and asks for the list's text at the end. -/
theorem impl_rl_l0 (s : ByteArray) (ps : List (List UInt8)) (hp : ps.length ≤ 65) (hl : ∀ p ∈ ps, p.length ≤ 1048576) (d : Nat) : ∀ (k i : Nat) (acc : List Int), ps.length = i + d → 100 + d < k → acc.length = i → (∀ v ∈ acc, Sm v) →
    (∃ vs : List Int, (∀ v ∈ vs, Sm v) ∧ vs.map Go.Lib.itoa = ps.drop i ∧ impl_ReadList.l0 k s acc (ps.map toB) ps.length i = if (listTxt (acc ++ vs)).toList = s.toList then some (acc ++ vs, true) else some ([], false)) ∨
    ((¬ ∃ vs : List Int, (∀ v ∈ vs, Sm v) ∧ vs.map Go.Lib.itoa = ps.drop i) ∧ impl_ReadList.l0 k s acc (ps.map toB) ps.length i = some ([], false)) := by
  induction d with
  | zero =>
    intro k i acc hd hk ha hacc
    obtain ⟨k, rfl⟩ : ∃ m, k = m + 1 := ⟨k - 1, by omega⟩
    have e1 : ¬ (i : Int) < (ps.length : Int) := by omega
    refine .inl ⟨[], by simp, by rw [List.drop_eq_nil_of_le (by omega)]; rfl, ?_⟩
    simp only [impl_ReadList.l0]
    rw [if_neg e1, ListText_eq k acc (by omega) (fun v hv => Sm_I64 (hacc v hv)) (by omega), Option.bind_some, List.append_nil]
  | succ d ih =>
    intro k i acc hd hk ha hacc
    obtain ⟨k, rfl⟩ : ∃ m, k = m + 1 := ⟨k - 1, by omega⟩
    have hi : i < ps.length := by omega
    have e1 : (i : Int) < (ps.length : Int) := by omega
    have e1' : (i : Int) < ((ps.map toB).length : Int) := by rw [List.length_map]; omega
    have e2 : 0 ≤ (i : Int) := by omega
    have ew : wrap64 ((i : Int) + 1) = ((i + 1 : Nat) : Int) := by rw [wr (n := (i : Int) + 1) (by omega)]; omega
    have edrop := List.drop_eq_getElem_cons hi
    simp only [impl_ReadList.l0]
    rw [if_pos e1, if_pos e2, if_pos e1', rdOf_nat ps i hi]
    rcases num_of ps[i] (hl _ (List.getElem_mem hi)) with ⟨v, hv, he, _, hf⟩ | ⟨hno, _, hf⟩
    · rw [hf, Option.bind_some]
      dsimp only
      rw [if_pos rfl, if_pos (by omega), ew]
      rcases ih k (i + 1) (acc ++ [v]) (by omega) (by omega) (by simp; omega) (by
        intro x hx
        rcases List.mem_append.1 hx with hx | hx
        · exact hacc x hx
        · rw [List.mem_singleton.1 hx]; exact hv) with ⟨vs, h1, h2, h3⟩ | ⟨h1, h2⟩
      · rw [List.append_assoc] at h3
        refine .inl ⟨v :: vs, ?_, by rw [List.map_cons, he, h2, edrop], h3⟩
        intro x hx
        rcases List.mem_cons.1 hx with rfl | hx
        · exact hv
        · exact h1 x hx
      · refine .inr ⟨fun ⟨vs, h3, h4⟩ => h1 ?_, h2⟩
        rw [edrop] at h4
        cases vs with
        | nil => cases h4
        | cons x xs => exact ⟨xs, fun y hy => h3 y (List.mem_cons_of_mem _ hy), (List.cons.inj h4).2⟩
    · rw [hf, Option.bind_some]
      dsimp only
      rw [if_neg (by simp)]
      refine .inr ⟨fun ⟨vs, h3, h4⟩ => ?_, rfl⟩
      rw [edrop] at h4
      cases vs with
      | nil => cases h4
      | cons x xs => exact hno x (h3 x (List.mem_cons_self ..)) (List.cons.inj h4).1
theorem splitN_eq (s : ByteArray) (hs : s.size ≤ 1048576) : strings_SplitN.f s (⟨#[44]⟩ : ByteArray) 65 = some ((Go.Lib.splitK [44] 0 (min 65 (s.size + 1) - 1) s.data.toList).map toB) := by
  unfold strings_SplitN.f
  have e : (⟨#[44]⟩ : ByteArray) = toB [44] := rfl
  rw [e, if_pos ⟨by omega, by rw [toB_size]; simp, by omega, by omega⟩]
  congr 1
  refine map_toB _ _ ?_
  rw [Go.Lib.splitB_data]; rfl
theorem readList_eq (s : ByteArray) (hs : s.size ≤ 1048576) : ∃ r : List Int × Bool, r.1.length ≤ 64 ∧ ∀ k, 1048800 < k → spec_ReadList.f k s = some r ∧ impl_ReadList.f k s = some r := by
  have hz := Go.Lib.size_eq s
  have eS : s.toList = s.data.toList := Go.ByteArray.toList_eq s
  by_cases h45 : s.toList = ([45] : List UInt8)
  · refine ⟨([], true), by simp, fun k hk => ?_⟩
    unfold spec_ReadList.f impl_ReadList.f
    rw [if_pos h45, if_pos h45]; exact ⟨rfl, rfl⟩
  · have hmem := pcs_mem 44 _ s.data.toList (Nat.le_refl _)
    have hlen := pcs_len 44 _ s.data.toList (Nat.le_refl _)
    have hjoin := join_pcs 44 _ s.data.toList (Nat.le_refl _)
    obtain ⟨k1, k2⟩ := splitK_pcs 44 (min 65 (s.size + 1) - 1) s.data.toList
    have hnot : ∀ v : Int, (44 : UInt8) ∉ Go.Lib.itoa v := by
      intro v hm
      rcases itoa_bytes v 44 hm with h | h
      · exact absurd h (by decide)
      · unfold isDig at h; exact absurd h (by decide)
    by_cases h65 : (pcs 44 s.data.toList).length ≤ 65
    · have esp : strings_SplitN.f s (⟨#[44]⟩ : ByteArray) 65 = some ((pcs 44 s.data.toList).map toB) := by
        rw [splitN_eq s hs, k1 (by omega)]
      have hpl : ∀ p ∈ pcs 44 s.data.toList, p.length ≤ 1048576 := fun p hp => by have := (hmem p hp).2; omega
      have hI := fun k (hk : 1048800 < k) => impl_rl_l0 s (pcs 44 s.data.toList) h65 hpl (pcs 44 s.data.toList).length k 0 [] (by omega) (by omega) rfl (by simp)
      have ei : ∀ k, impl_ReadList.f k s = impl_ReadList.l0 k s [] ((pcs 44 s.data.toList).map toB) (pcs 44 s.data.toList).length (0 : Nat) := by
        intro k
        unfold impl_ReadList.f
        rw [if_neg h45, esp, Option.bind_some, List.length_map]; rfl
      have txt : ∀ vs : List Int, vs.map Go.Lib.itoa = pcs 44 s.data.toList → vs.length ≤ 64 → ((∀ v ∈ vs, Mv v) ↔ (listTxt vs).toList = s.toList) := by
        intro vs he hv64
        have hne : vs ≠ [] := by
          rintro rfl
          have := pcs_pos 44 s.data.toList
          rw [← he] at this; simp at this
        unfold listTxt
        rw [if_neg (by omega), if_neg hne]
        constructor
        · intro hm
          rw [if_pos hm, Go.ByteArray.toList_eq, eS, data_toB]
          unfold numsText
          rw [he, hjoin]
        · intro ht
          by_cases hm : ∀ v ∈ vs, Mv v
          · exact hm
          · exfalso
            rw [if_neg hm, Go.ByteArray.toList_eq, eS, data_toB] at ht
            rw [← ht] at he
            have e2 : pcs 44 ([] : List UInt8) = [[]] := rfl
            rw [e2] at he
            cases vs with
            | nil => exact hne rfl
            | cons x xs => exact itoa_ne_nil x (List.cons.inj he).1
      by_cases h64 : (pcs 44 s.data.toList).length ≤ 64
      · have hS := fun k (hk : 1048800 < k) => spec_rl_l0 (pcs 44 s.data.toList) h64 hpl (pcs 44 s.data.toList).length k 0 [] (by omega) (by omega) rfl
        have es : ∀ k, 1048800 < k → spec_ReadList.f k s = spec_ReadList.l0 k ((pcs 44 s.data.toList).map toB) [] (0 : Nat) := by
          intro k hk
          unfold spec_ReadList.f
          rw [if_neg h45, split_eq s 44 44 rfl hs k (by omega), Option.bind_some, if_neg (by rw [List.length_map]; omega)]; rfl
        by_cases hx : ∃ vs : List Int, (∀ v ∈ vs, Mv v) ∧ vs.map Go.Lib.itoa = (pcs 44 s.data.toList).drop 0
        · obtain ⟨vs, hv, he⟩ := hx
          have hvl : vs.length = (pcs 44 s.data.toList).length := by rw [List.drop_zero] at he; rw [← he, List.length_map]
          refine ⟨(vs, true), by dsimp only; omega, fun k hk => ⟨?_, ?_⟩⟩
          · rcases hS k hk with ⟨ws, hw, hwe, hwf⟩ | ⟨hno, _⟩
            · rw [es k hk, hwf, List.nil_append, itoas_inj ws vs (fun v h => Mv_Sm (hw v h)) (fun v h => Mv_Sm (hv v h)) (hwe.trans he.symm)]
            · exact absurd ⟨vs, hv, he⟩ hno
          · rcases hI k hk with ⟨ws, hw, hwe, hwf⟩ | ⟨hno, _⟩
            · have e := itoas_inj ws vs hw (fun v h => Mv_Sm (hv v h)) (hwe.trans he.symm)
              subst e
              rw [List.drop_zero] at he
              rw [ei k, hwf, List.nil_append, if_pos ((txt ws he (by omega)).1 hv)]
            · exact absurd ⟨vs, fun v h => Mv_Sm (hv v h), he⟩ hno
        · refine ⟨([], false), by simp, fun k hk => ⟨?_, ?_⟩⟩
          · rcases hS k hk with ⟨ws, hw, hwe, _⟩ | ⟨_, hf⟩
            · exact absurd ⟨ws, hw, hwe⟩ hx
            · rw [es k hk, hf]
          · rcases hI k hk with ⟨ws, hw, hwe, hwf⟩ | ⟨_, hf⟩
            · have hwl : ws.length = (pcs 44 s.data.toList).length := by rw [List.drop_zero] at hwe; rw [← hwe, List.length_map]
              rw [ei k, hwf, List.nil_append, if_neg ?_]
              intro ht
              exact hx ⟨ws, (txt ws (by rw [List.drop_zero] at hwe; exact hwe) (by omega)).2 ht, hwe⟩
            · rw [ei k, hf]
      · refine ⟨([], false), by simp, fun k hk => ⟨?_, ?_⟩⟩
        · unfold spec_ReadList.f
          rw [if_neg h45, split_eq s 44 44 rfl hs k (by omega), Option.bind_some, if_pos (by rw [List.length_map]; omega)]
        · rcases hI k hk with ⟨ws, hw, hwe, hwf⟩ | ⟨_, hf⟩
          · have hwl : ws.length = (pcs 44 s.data.toList).length := by rw [List.drop_zero] at hwe; rw [← hwe, List.length_map]
            rw [ei k, hwf, List.nil_append, if_neg ?_]
            unfold listTxt
            rw [if_pos (by omega), Go.ByteArray.toList_eq, data_toB, eS]
            intro h
            rw [← h] at hwl
            have : (pcs 44 ([] : List UInt8)).length = 1 := rfl
            rw [← h] at h64
            omega
          · rw [ei k, hf]
    · -- more than 65 pieces: the last one of the program's holds a comma
      obtain ⟨ps, r, e1, e2, e3⟩ := k2 (by omega)
      have e65 : min 65 (s.size + 1) - 1 = 64 := by omega
      rw [e65] at e1 e2
      refine ⟨([], false), by simp, fun k hk => ⟨?_, ?_⟩⟩
      · unfold spec_ReadList.f
        rw [if_neg h45, split_eq s 44 44 rfl hs k (by omega), Option.bind_some, if_pos (by rw [List.length_map]; omega)]
      · have hlk : ∀ p ∈ ps ++ [r], p.length ≤ 1048576 := by
          intro p hp
          have hq := Go.Lib.splitB_data (toB [44]) 0 64 s
          have := splitK_len 44 64 s.data.toList p (by rw [e1]; exact hp)
          omega
        have hI := impl_rl_l0 s (ps ++ [r]) (by simp; omega) hlk (ps ++ [r]).length k 0 [] (by omega) (by simp; omega) rfl (by simp)
        have ei : impl_ReadList.f k s = impl_ReadList.l0 k s [] ((ps ++ [r]).map toB) (ps ++ [r]).length (0 : Nat) := by
          unfold impl_ReadList.f
          rw [if_neg h45, splitN_eq s hs, e65, e1, Option.bind_some, List.length_map]; rfl
        rcases hI with ⟨ws, hw, hwe, _⟩ | ⟨_, hf⟩
        · exfalso
          rw [List.drop_zero] at hwe
          have hr : r ∈ ws.map Go.Lib.itoa := by rw [hwe]; simp
          obtain ⟨v, _, hv⟩ := List.mem_map.1 hr
          exact hnot v (hv ▸ e3)
        · rw [ei, hf]
theorem FnExactReadList : laws_FnExactReadList.Pure := by
  intro s _
  by_cases h : (s.size : Int) > 1048576
  · exact ⟨0, by unfold laws_FnExactReadList.f; rw [if_pos h]⟩
  · obtain ⟨r, hr, hf⟩ := readList_eq s (by omega)
    refine ⟨1048900, ?_⟩
    have eR : ∀ k, 1000 < k → laws_eqInt64S.f k r.1 r.1 = some true := fun k hk => eqInts_self k r.1 (by omega) (by omega)
    have mR : ∀ k, 1000 < k → laws_markInt64S.f k r.1 1 = some (1 + (r.1.length : Int), seqI r.1.length 1) := fun k hk => mark_eq k r.1 (by omega) (by omega)
    have hR : ∀ k, 1000 < k → laws_heldInt64S.f k (seqI r.1.length 1) 1 = some (1 + (r.1.length : Int)) := fun k hk => held_eq k r.1.length (by omega) (by omega)
    have n2 : ¬ (1 + (r.1.length : Int) < 0) := by omega
    unfold laws_FnExactReadList.f
    rw [if_neg h, (hf 1048900 (by omega)).1, (hf 1048900 (by omega)).2]; simp only [Option.bind_some]
    rw [eR _ (by omega)]
    rw [show (1048900 : Nat) = 1048899 + 1 from rfl]
    simp only [Option.bind_some, if_true, bne_self_eq_false, laws_FnExactReadList.j0, Bool.false_eq_true, if_false]
    rw [mR _ (by omega)]; simp only [Option.bind_some]
    rw [hR _ (by omega)]; simp only [Option.bind_some]
    rw [if_neg n2]; simp only [if_true]
    rw [(hf _ (by omega)).2]; simp only [Option.bind_some]
    rw [eR _ (by omega)]
    rw [show (1048899 : Nat) = 1048898 + 1 from rfl]
    simp only [Option.bind_some, if_true, bne_self_eq_false, laws_FnExactReadList.j1, Bool.false_eq_true, if_false]
    rw [hR _ (by omega)]; simp only [Option.bind_some]
    rw [if_neg n2]; simp

end Go.Proofs.YtfpjcjignplpkaaDoor.Pure
