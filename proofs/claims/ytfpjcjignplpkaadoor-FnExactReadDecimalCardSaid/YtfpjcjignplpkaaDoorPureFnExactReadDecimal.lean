/- Proved: the plain statement of the law FnExactReadDecimal: the program's function and the reference's give the same answer. Conditions: none beyond the statement's own. -/
import Derived.Test.YtfpjcjignplpkaaDoorPFnExactReadDecimalx2
import Derived.Lib.IndexBytes
import Derived.Lib.ParseIntB
import Derived.Lib.ItoaNum
namespace Go.Proofs.YtfpjcjignplpkaaDoor.Pure
open Go.RowKit Go.Proofs.YtfpjcjignplpkaaDoor.PFnExactReadDecimal Go.Proofs.YtfpjcjignplpkaaDoorW.PrintWords Go.Proofs.YtfpjcjignplpkaaDoorW.PrintLast
set_option linter.unusedVariables false
set_option linter.unusedSimpArgs false

theorem wr {n : Int} (h : -9223372036854775808 ≤ n ∧ n ≤ 9223372036854775807) : wrap64 n = n := by unfold wrap64; omega

def isDig (b : UInt8) : Prop := 48 ≤ b.toNat ∧ b.toNat ≤ 57
def numAcc (acc : Nat) (l : List UInt8) : Nat := l.foldl (fun n c => n * 10 + (c.toNat - 48)) acc
theorem nA_nil (acc : Nat) : numAcc acc [] = acc := rfl
theorem nA_cons (acc : Nat) (c : UInt8) (r : List UInt8) : numAcc acc (c :: r) = numAcc (acc * 10 + (c.toNat - 48)) r := by unfold numAcc; rw [List.foldl_cons]
theorem numAcc_ge : ∀ (l : List UInt8) (acc : Nat), acc ≤ numAcc acc l
  | [], acc => Nat.le_refl _
  | c :: r, acc => by have := numAcc_ge r (acc * 10 + (c.toNat - 48)); rw [nA_cons]; omega
theorem numAcc_append : ∀ (l r : List UInt8) (acc : Nat), numAcc acc (l ++ r) = numAcc (numAcc acc l) r
  | [], r, acc => by rw [nA_nil, List.nil_append]
  | c :: l, r, acc => by rw [List.cons_append, nA_cons, nA_cons, numAcc_append l r]
theorem numAcc_lt : ∀ (l : List UInt8) (acc : Nat), (∀ c ∈ l, isDig c) → numAcc acc l < (acc + 1) * 10 ^ l.length
  | [], acc, _ => by rw [nA_nil]; simp
  | c :: r, acc, h => by
    have hc : isDig c := h c (by simp)
    have h1 := numAcc_lt r (acc * 10 + (c.toNat - 48)) (fun x hx => h x (by simp [hx]))
    unfold isDig at hc
    rw [nA_cons, List.length_cons, Nat.pow_succ]
    refine Nat.lt_of_lt_of_le h1 ?_
    rw [Nat.mul_comm (10 ^ r.length) 10, ← Nat.mul_assoc]
    exact Nat.mul_le_mul_right _ (by omega)
theorem parseM_ok (M : Nat) (hM : M ≤ 18446744073709551615) : ∀ (l : List UInt8) (acc : Nat), (∀ c ∈ l, isDig c) → numAcc acc l ≤ M → Go.Lib.parseUintM M acc l = .ok (numAcc acc l)
  | [], acc, _, _ => by rw [nA_nil]; rfl
  | c :: r, acc, h, hm => by
    have hc : isDig c := h c (by simp)
    have hg := numAcc_ge r (acc * 10 + (c.toNat - 48))
    rw [nA_cons] at hm ⊢
    rw [Go.Lib.parseUintM, if_pos (show 48 ≤ c.toNat ∧ c.toNat ≤ 57 from hc), if_neg (by omega), if_neg (by omega)]
    exact parseM_ok M hM r _ (fun x hx => h x (by simp [hx])) hm
theorem dig_byte (c : UInt8) (h : isDig c) : UInt8.ofNat (48 + (c.toNat - 48)) = c := by
  unfold isDig at h
  rw [show 48 + (c.toNat - 48) = c.toNat by omega]
  simp
theorem dec_append : ∀ (l : List UInt8) (acc : Nat), 1 ≤ acc → (∀ c ∈ l, isDig c) → Go.Lib.decDigits (numAcc acc l) = Go.Lib.decDigits acc ++ l
  | [], acc, _, _ => by rw [nA_nil]; simp
  | c :: r, acc, h1, h => by
    have hc : isDig c := h c (by simp)
    rw [nA_cons, dec_append r _ (by omega) (fun x hx => h x (by simp [hx]))]
    have e : Go.Lib.decDigits (acc * 10 + (c.toNat - 48)) = Go.Lib.decDigits acc ++ [c] := by
      have hd := dig_byte c hc
      unfold isDig at hc
      rw [Go.Lib.decDigits, dif_neg (by omega), show (acc * 10 + (c.toNat - 48)) / 10 = acc by omega, show (acc * 10 + (c.toNat - 48)) % 10 = c.toNat - 48 by omega, hd]
    rw [e, List.append_assoc]; rfl
/-- A numeral without needless zeros is the numeral of its value. -/
theorem dec_of_digits (c : UInt8) (r : List UInt8) (h : ∀ x ∈ c :: r, isDig x) (hz : c.toNat = 48 → r = []) : Go.Lib.decDigits (numAcc 0 (c :: r)) = c :: r := by
  have hc : isDig c := h c (by simp)
  have hd := dig_byte c hc
  by_cases z : c.toNat = 48
  · have := hz z
    subst this
    rw [nA_cons, nA_nil, Go.Lib.decDigits, dif_pos (by omega)]
    rw [z] at hd ⊢
    rw [show 48 + (0 * 10 + (48 - 48)) = 48 + (48 - 48) by omega, hd]
  · have hc' := hc
    unfold isDig at hc'
    rw [nA_cons, dec_append r _ (by omega) (fun x hx => h x (by simp [hx])), Go.Lib.decDigits, dif_pos (by omega), show 48 + (0 * 10 + (c.toNat - 48)) = 48 + (c.toNat - 48) by omega, hd]; rfl
theorem ofNat_dig (u : Nat) (h : u < 10) : isDig (UInt8.ofNat (48 + u)) ∧ (UInt8.ofNat (48 + u)).toNat = 48 + u := by
  unfold isDig
  rw [UInt8.toNat_ofNat', Nat.mod_eq_of_lt (by omega)]
  omega
theorem decDigits_dig (u : Nat) : ∀ c ∈ Go.Lib.decDigits u, isDig c := by
  induction u using Nat.strongRecOn with
  | _ u ih =>
    intro c hc
    by_cases h : u < 10
    · rw [Go.Lib.decDigits, dif_pos h, List.mem_singleton] at hc
      subst hc; exact (ofNat_dig u h).1
    · rw [Go.Lib.decDigits, dif_neg h, List.mem_append, List.mem_singleton] at hc
      rcases hc with hc | rfl
      · exact ih (u / 10) (by omega) c hc
      · exact (ofNat_dig _ (by omega)).1
theorem numAcc_dec (u : Nat) : numAcc 0 (Go.Lib.decDigits u) = u := by
  induction u using Nat.strongRecOn with
  | _ u ih =>
    by_cases h : u < 10
    · rw [Go.Lib.decDigits, dif_pos h, nA_cons, nA_nil, (ofNat_dig u h).2]; omega
    · rw [Go.Lib.decDigits, dif_neg h, numAcc_append, ih (u / 10) (by omega), nA_cons, nA_nil, (ofNat_dig _ (by omega)).2]; omega
/-- The first digit is no zero, but for zero itself. -/
theorem decDigits_head (u : Nat) : ∃ c r, Go.Lib.decDigits u = c :: r ∧ (c.toNat = 48 → r = []) := by
  induction u using Nat.strongRecOn with
  | _ u ih =>
    by_cases h : u < 10
    · exact ⟨_, [], by rw [Go.Lib.decDigits, dif_pos h], fun _ => rfl⟩
    · obtain ⟨c, r, e, hz⟩ := ih (u / 10) (by omega)
      refine ⟨c, r ++ [UInt8.ofNat (48 + u % 10)], by rw [Go.Lib.decDigits, dif_neg h, e]; rfl, fun z => ?_⟩
      have hr := hz z
      subst hr
      exfalso
      have hn := numAcc_dec (u / 10)
      rw [e, nA_cons, nA_nil, z] at hn
      omega
theorem nDigits_pow : ∀ (k u : Nat), 1 ≤ k → u < 10 ^ k → Go.Lib.nDigits u ≤ k
  | 0, _, h, _ => by omega
  | k + 1, u, _, h => by
    by_cases hs : u < 10
    · rw [Go.Lib.nDigits_small hs]; omega
    · rw [Go.Lib.nDigits_big hs]
      rw [Nat.pow_succ] at h
      cases k with
      | zero => simp at h; omega
      | succ k => have := nDigits_pow (k + 1) (u / 10) (by omega) (by omega); omega
/-- What a numeral of at most 18 digits looks like. -/
def Numeral (l : List UInt8) : Prop := ∃ c r, l = c :: r ∧ l.length ≤ 18 ∧ (∀ x ∈ l, isDig x) ∧ (c.toNat = 48 → r = [])
theorem dec_numeral (u : Nat) (h : u < 1000000000000000000) : Numeral (Go.Lib.decDigits u) := by
  obtain ⟨c, r, e, hz⟩ := decDigits_head u
  refine ⟨c, r, e, ?_, decDigits_dig u, hz⟩
  rw [Go.Lib.decDigits_length]
  exact nDigits_pow 18 u (by omega) (by omega)
theorem numeral_dec (l : List UInt8) (h : Numeral l) : Go.Lib.decDigits (numAcc 0 l) = l ∧ numAcc 0 l < 1000000000000000000 := by
  obtain ⟨c, r, rfl, hl, hd, hz⟩ := h
  refine ⟨dec_of_digits c r hd hz, ?_⟩
  have h1 := numAcc_lt (c :: r) 0 hd
  refine Nat.lt_of_lt_of_le h1 ?_
  rw [Nat.zero_add, Nat.one_mul]
  exact Nat.le_trans (Nat.pow_le_pow_right (by omega) hl) (by omega)

theorem bt_get (s : ByteArray) (i : Nat) (h : i < s.data.toList.length) : bt s i = ((s.data.toList[i]).toNat : Int) := by
  unfold bt
  have h' : (i : Int).toNat < s.size := by rw [Int.toNat_natCast, Go.Lib.size_eq]; exact h
  rw [dif_pos h']
  simp only [Int.toNat_natCast, Array.getElem_toList]
  rfl
theorem digit_eq' (c : Int) : spec_l01Digit.f c = some (decide (48 ≤ c ∧ c ≤ 57)) := by
  unfold spec_l01Digit.f
  by_cases h : c ≥ 48 <;> simp [h]
instance isDigDec (c : UInt8) : Decidable (isDig c) := by unfold isDig; infer_instance
theorem number_l0 (s : ByteArray) (x4 : Int) (hs : s.size ≤ 20) (d : Nat) : ∀ (k i n : Nat), s.data.toList.length = i + d → d < k → (n + 1) * 10 ^ d ≤ 1000000000000000000 →
    spec_l01Number.l0 k s x4 n i = if ∀ c ∈ s.data.toList.drop i, isDig c then (if x4 = 1 then some (-(numAcc n (s.data.toList.drop i) : Int), true) else some ((numAcc n (s.data.toList.drop i) : Int), true)) else some (0, false) := by
  have hz := Go.Lib.size_eq s
  induction d with
  | zero =>
    intro k i n hd hk hn
    obtain ⟨k, rfl⟩ : ∃ m, k = m + 1 := ⟨k - 1, by omega⟩
    have e : s.data.toList.drop i = [] := List.drop_eq_nil_of_le (by omega)
    have e1 : ¬ (i : Int) < (s.size : Int) := by omega
    simp only [spec_l01Number.l0]
    rw [if_neg e1, e, nA_nil, if_pos (show ∀ c ∈ ([] : List UInt8), isDig c from fun c hc => by cases hc), wr (n := -(n : Int)) (by simp at hn; omega)]
  | succ d ih =>
    intro k i n hd hk hn
    obtain ⟨k, rfl⟩ : ∃ m, k = m + 1 := ⟨k - 1, by omega⟩
    have hi : i < s.data.toList.length := by omega
    have e := List.drop_eq_getElem_cons hi
    have e1 : (i : Int) < (s.size : Int) := by omega
    have e2 : 0 ≤ (i : Int) := by omega
    have eb := bt_get s i hi
    rw [e]
    generalize s.data.toList[i] = c at e eb
    have hlt := c.toNat_lt
    have hp : 1 ≤ 10 ^ d := Nat.one_le_pow _ _ (by omega)
    rw [Nat.pow_succ] at hn
    have hn1 : n + 1 ≤ (n + 1) * (10 ^ d * 10) := Nat.le_mul_of_pos_right _ (by omega)
    have hn2 : (n + 1) * 10 ≤ (n + 1) * (10 ^ d * 10) := Nat.mul_le_mul_left _ (by omega)
    simp only [spec_l01Number.l0]
    rw [if_pos e1, if_pos e2, digit_eq', Option.bind_some, eb, wr (n := (i : Int) + 1) (by omega)]
    by_cases hc : isDig c
    · have hc' := hc
      unfold isDig at hc'
      have w1 : wrap64 (10 * (n : Int)) = 10 * (n : Int) := wr (by omega)
      have w2 : wrap64 (10 * (n : Int) + ((c.toNat : Int) - 48) % 256) = ((n * 10 + (c.toNat - 48) : Nat) : Int) := by rw [wr (by omega)]; omega
      have hcond : (48 ≤ (c.toNat : Int) ∧ (c.toNat : Int) ≤ 57) := by omega
      have ec : ((i : Int) + 1) = ((i + 1 : Nat) : Int) := by omega
      rw [if_pos (by simp only [hcond, and_self, decide_true]), w1, w2, ec, ih k (i + 1) (n * 10 + (c.toNat - 48)) (by omega) (by omega) ?_, nA_cons]
      · by_cases hall : ∀ x ∈ s.data.toList.drop (i + 1), isDig x
        · rw [if_pos hall, if_pos (show ∀ x ∈ c :: s.data.toList.drop (i + 1), isDig x from fun x hx => by rcases List.mem_cons.1 hx with rfl | hx; exact hc; exact hall x hx)]
        · rw [if_neg hall, if_neg (show ¬ ∀ x ∈ c :: s.data.toList.drop (i + 1), isDig x from fun h => hall fun x hx => h x (List.mem_cons_of_mem _ hx))]
      · refine Nat.le_trans (Nat.mul_le_mul_right (10 ^ d) (show n * 10 + (c.toNat - 48) + 1 ≤ (n + 1) * 10 by omega)) ?_
        rw [Nat.mul_assoc, Nat.mul_comm 10 (10 ^ d)]; exact hn
    · have hc' := hc
      unfold isDig at hc'
      rw [if_neg (by rw [decide_eq_true_eq]; omega), if_neg (show ¬ ∀ x ∈ c :: s.data.toList.drop (i + 1), isDig x from fun h => hc (h c (List.mem_cons_self ..)))]
/-- A number of at most 18 digits. -/
def Sm (v : Int) : Prop := -1000000000000000000 < v ∧ v < 1000000000000000000
theorem itoa_ne_nil (v : Int) : Go.Lib.itoa v ≠ [] := by
  intro h
  unfold Go.Lib.itoa at h
  split at h
  · simp at h
  · obtain ⟨c, r, e, _⟩ := decDigits_head v.toNat
    rw [e] at h; simp at h
/-- What the reference reads: the number whose numeral the text is. -/
theorem number_eq (s : ByteArray) (hs : s.size ≤ 140737488351232) (k : Nat) (hk : 40 ≤ k) :
    (∃ v, Sm v ∧ Go.Lib.itoa v = s.data.toList ∧ spec_l01Number.f k s = some (v, true)) ∨ ((∀ v, Sm v → Go.Lib.itoa v ≠ s.data.toList) ∧ spec_l01Number.f k s = some (0, false)) := by
  have hz := Go.Lib.size_eq s
  obtain ⟨k, rfl⟩ : ∃ m, k = m + 1 + 1 + 1 := ⟨k - 3, by omega⟩
  unfold spec_l01Number.f
  generalize hl : s.data.toList = l at hz
  cases l with
  | nil =>
    right
    rw [List.length_nil] at hz
    have e1 : ¬ (s.size : Int) > 0 := by omega
    have e2 : (s.size : Int) = 0 := by omega
    refine ⟨fun v _ => itoa_ne_nil v, ?_⟩
    rw [if_neg e1]
    simp only [spec_l01Number.j0, Bool.false_eq_true, if_false, spec_l01Number.j1]
    rw [if_pos e2]
    simp only [spec_l01Number.j2, if_true]
  | cons c r =>
    have hlt := c.toNat_lt
    rw [List.length_cons] at hz
    have e1 : (s.size : Int) > 0 := by omega
    have e2 : 0 < (s.size : Int) := by omega
    have eb : bt s 0 = (c.toNat : Int) := by
      have := bt_get s 0 (by rw [hl]; simp)
      simp only [hl] at this
      simpa using this
    rw [if_pos e1, if_pos e2, eb]
    simp only [spec_l01Number.j0]
    by_cases hm : c.toNat = 45
    · -- a minus ahead
      have hc : c = 45 := UInt8.toNat_inj.1 hm
      rw [if_pos (by rw [hm]; rfl)]
      simp only [spec_l01Number.j1]
      have noneg : ∀ v, Go.Lib.itoa v = c :: r → v < 0 ∧ Go.Lib.decDigits v.natAbs = r := by
        intro v hv
        unfold Go.Lib.itoa at hv
        by_cases hn : v < 0
        · rw [if_pos hn] at hv; exact ⟨hn, (List.cons.inj hv).2⟩
        · rw [if_neg hn] at hv
          have := decDigits_dig v.toNat c (by rw [hv]; simp)
          unfold isDig at this; omega
      have falsely : (¬ Numeral r ∨ ∃ x q, r = x :: q ∧ x.toNat = 48) → ∀ v, Sm v → Go.Lib.itoa v ≠ c :: r := by
        intro hN v hv he
        obtain ⟨hn, hd⟩ := noneg v he
        unfold Sm at hv
        rcases hN with hN | ⟨x, q, rfl, hx⟩
        · exact hN (hd ▸ dec_numeral v.natAbs (by omega))
        · obtain ⟨c', r', e', hz'⟩ := decDigits_head v.natAbs
          rw [hd] at e'
          obtain ⟨rfl, rfl⟩ := List.cons.inj e'
          have hq := hz' hx
          subst hq
          have := numAcc_dec v.natAbs
          rw [hd, nA_cons, nA_nil, hx] at this
          omega
      cases r with
      | nil =>
        right
        rw [if_pos (by rw [List.length_nil] at hz; omega)]
        simp only [spec_l01Number.j2, if_true]
        exact ⟨falsely (.inl fun ⟨_, _, h, _⟩ => by cases h), trivial⟩
      | cons x q =>
        have hxlt := x.toNat_lt
        rw [List.length_cons] at hz
        rw [if_neg (by omega), wr (n := (s.size : Int) - 1) (by omega)]
        by_cases h18 : (s.size : Int) - 1 > 18
        · right
          rw [if_pos h18]
          simp only [spec_l01Number.j2, if_true]
          exact ⟨falsely (.inl fun ⟨_, _, _, h, _⟩ => by rw [List.length_cons] at h; omega), trivial⟩
        · have eb1 : bt s 1 = (x.toNat : Int) := by
            have := bt_get s 1 (by rw [hl]; simp)
            simp only [hl] at this
            simpa using this
          rw [if_neg h18, if_pos (by omega), if_pos (by omega), eb1]
          by_cases h48 : x.toNat = 48
          · right
            rw [if_pos (by omega), show decide ((s.size : Int) > 1) = true from decide_eq_true (by omega)]
            simp only [spec_l01Number.j2, if_true]
            exact ⟨falsely (.inr ⟨x, q, rfl, h48⟩), trivial⟩
          · rw [if_neg (by omega)]
            simp only [spec_l01Number.j2, Bool.false_eq_true, if_false]
            have hL := number_l0 s 1 (by omega) (q.length + 1) k 1 0 (by rw [hl]; simp; omega) (by omega) (by
              rw [Nat.zero_add, Nat.one_mul]; exact Nat.le_trans (Nat.pow_le_pow_right (n := 10) (j := 18) (by omega) (by omega)) (by omega))
            have ed : s.data.toList.drop 1 = x :: q := by rw [hl]; rfl
            rw [ed] at hL
            have hL' : spec_l01Number.l0 k s 1 0 1 = _ := hL
            rw [hL']
            by_cases hall : ∀ y ∈ x :: q, isDig y
            · left
              have hN : Numeral (x :: q) := ⟨x, q, rfl, by rw [List.length_cons]; omega, hall, fun h => absurd h h48⟩
              obtain ⟨hd, hb⟩ := numeral_dec _ hN
              have hpos : 1 ≤ numAcc 0 (x :: q) := by
                rcases Nat.eq_zero_or_pos (numAcc 0 (x :: q)) with h0 | h0
                · rw [h0, Go.Lib.decDigits, dif_pos (by omega)] at hd
                  have := (List.cons.inj hd).1
                  exfalso; apply h48; rw [← this]; rfl
                · exact h0
              refine ⟨-(numAcc 0 (x :: q) : Int), by unfold Sm; omega, ?_, by rw [if_pos hall, if_pos rfl]⟩
              unfold Go.Lib.itoa
              rw [if_pos (by omega), show (-(numAcc 0 (x :: q) : Int)).natAbs = numAcc 0 (x :: q) by omega, hd, hc]
            · right
              rw [if_neg hall]
              exact ⟨falsely (.inl fun ⟨_, _, _, _, h, _⟩ => hall h), rfl⟩
    · -- no minus
      have hne : ¬ ((c.toNat : Int) == 45) = true := by rw [beq_iff_eq]; omega
      rw [if_neg hne]
      simp only [spec_l01Number.j1]
      have falsely : ¬ Numeral (c :: r) → ∀ v, Sm v → Go.Lib.itoa v ≠ c :: r := by
        intro hN v hv he
        unfold Go.Lib.itoa at he
        unfold Sm at hv
        by_cases hn : v < 0
        · rw [if_pos hn] at he
          exact hm (by rw [← (List.cons.inj he).1]; rfl)
        · rw [if_neg hn] at he
          exact hN (he ▸ dec_numeral v.toNat (by omega))
      have hL : s.size ≤ 18 → spec_l01Number.l0 k s 0 0 0 = if ∀ y ∈ c :: r, isDig y then some ((numAcc 0 (c :: r) : Int), true) else some (0, false) := by
        intro h18
        have hL := number_l0 s 0 (by omega) (r.length + 1) k 0 0 (by rw [hl]; simp) (by omega) (by
          rw [Nat.zero_add, Nat.one_mul]; exact Nat.le_trans (Nat.pow_le_pow_right (n := 10) (j := 18) (by omega) (by omega)) (by omega))
        rw [List.drop_zero, hl, if_neg (show ¬ (0 : Int) = 1 by omega)] at hL
        exact hL
      rw [if_neg (by omega), wr (n := (s.size : Int) - 0) (by omega)]
      by_cases h18 : (s.size : Int) - 0 > 18
      · right
        rw [if_pos h18]
        simp only [spec_l01Number.j2, if_true]
        exact ⟨falsely (fun ⟨_, _, _, h, _⟩ => by rw [List.length_cons] at h; omega), trivial⟩
      · rw [if_neg h18, if_pos (by omega), if_pos e2, eb]
        have tail : (c.toNat = 48 → r = []) → ((∃ v, Sm v ∧ Go.Lib.itoa v = c :: r ∧ spec_l01Number.l0 k s 0 0 0 = some (v, true)) ∨ ((∀ v, Sm v → Go.Lib.itoa v ≠ c :: r) ∧ spec_l01Number.l0 k s 0 0 0 = some (0, false))) := by
          intro hz48
          rw [hL (by omega)]
          by_cases hall : ∀ y ∈ c :: r, isDig y
          · left
            have hN : Numeral (c :: r) := ⟨c, r, rfl, by rw [List.length_cons]; omega, hall, hz48⟩
            obtain ⟨hd, hb⟩ := numeral_dec _ hN
            refine ⟨(numAcc 0 (c :: r) : Int), by unfold Sm; omega, ?_, by rw [if_pos hall]⟩
            unfold Go.Lib.itoa
            rw [if_neg (by omega), Int.toNat_natCast, hd]
          · right
            rw [if_neg hall]
            exact ⟨falsely (fun ⟨_, _, _, _, h, _⟩ => hall h), rfl⟩
        by_cases h48 : c.toNat = 48
        · rw [if_pos (by omega)]
          by_cases hr : r = []
          · subst hr
            rw [show decide ((s.size : Int) > 1) = false from decide_eq_false (by rw [List.length_nil] at hz; omega)]
            simp only [spec_l01Number.j2, Bool.false_eq_true, if_false]
            exact tail (fun _ => rfl)
          · have hrl : 1 ≤ r.length := List.length_pos_iff.2 hr
            rw [show decide ((s.size : Int) > 1) = true from decide_eq_true (by omega)]
            right
            simp only [spec_l01Number.j2, if_true]
            refine ⟨falsely (fun ⟨c', r', e, _, _, h⟩ => ?_), trivial⟩
            obtain ⟨rfl, rfl⟩ := List.cons.inj e
            exact hr (h h48)
        · rw [if_neg (by omega)]
          simp only [spec_l01Number.j2, Bool.false_eq_true, if_false]
          exact tail (fun h => absurd h h48)
theorem ba_ext {a b : ByteArray} (h : a.data.toList = b.data.toList) : a = b := by
  cases a; cases b; congr 1; exact Array.toList_inj.1 h
theorem parse_itoa (v : Int) (hv : Sm v) : Go.Lib.parseIntB 64 (Go.Lib.itoa v) = .ok v := by
  unfold Sm at hv
  have hp : (2 : Nat) ^ (64 - 1) = 9223372036854775808 := by decide
  have hq : (2 : Nat) ^ 64 - 1 = 18446744073709551615 := by decide
  unfold Go.Lib.itoa
  by_cases hn : v < 0
  · rw [if_pos hn]
    have hd := dec_numeral v.natAbs (by omega)
    have hne : Go.Lib.decDigits v.natAbs ≠ [] := by obtain ⟨c, r, e, _⟩ := hd; rw [e]; simp
    have hok := parseM_ok (2 ^ 64 - 1) (by omega) (Go.Lib.decDigits v.natAbs) 0 (decDigits_dig _) (by rw [numAcc_dec]; omega)
    rw [numAcc_dec] at hok
    simp only [Go.Lib.parseIntB]
    have h45 : (45 : UInt8).toNat = 45 := rfl
    rw [h45, if_pos (by omega)]
    simp only [Go.Lib.parseUintB]
    rw [if_neg hne, hok]
    simp only [hp]
    rw [if_neg (by omega), if_neg (by omega), if_pos trivial]
    congr 1; omega
  · rw [if_neg hn]
    have hd := dec_numeral v.toNat (by omega)
    have hok := parseM_ok (2 ^ 64 - 1) (by omega) (Go.Lib.decDigits v.toNat) 0 (decDigits_dig _) (by rw [numAcc_dec]; omega)
    rw [numAcc_dec] at hok
    obtain ⟨c, r, e, _, hdig, _⟩ := hd
    have hc := hdig c (by rw [e]; simp)
    unfold isDig at hc
    rw [e] at hok ⊢
    simp only [Go.Lib.parseIntB]
    rw [if_neg (by omega)]
    simp only [Go.Lib.parseUintB]
    rw [if_neg (by simp), hok]
    simp only [hp]
    rw [if_neg (by omega), if_neg (by omega), if_neg (by omega)]
    congr 1; omega
theorem parse_range (l : List UInt8) (v : Int) (h : Go.Lib.parseIntB 64 l = .ok v) : -9223372036854775808 ≤ v ∧ v ≤ 9223372036854775807 := by
  have hp : (2 : Nat) ^ (64 - 1) = 9223372036854775808 := by decide
  cases l with
  | nil => simp [Go.Lib.parseIntB] at h
  | cons c r =>
    simp only [Go.Lib.parseIntB, hp] at h
    generalize Go.Lib.parseUintB 64 (if c.toNat = 43 ∨ c.toNat = 45 then r else c :: r) = e at h
    cases e with
    | ok u =>
      dsimp only at h
      by_cases hn : c.toNat = 45
      · rw [if_neg (by omega)] at h
        by_cases h2 : c.toNat = 45 ∧ 9223372036854775808 < u
        · rw [if_pos h2] at h; cases h
        · rw [if_neg h2, if_pos hn] at h
          obtain rfl := Go.Lib.NumEnd.ok.inj h
          omega
      · by_cases h2 : ¬ c.toNat = 45 ∧ 9223372036854775808 ≤ u
        · rw [if_pos h2] at h; cases h
        · rw [if_neg h2, if_neg (by omega), if_neg hn] at h
          obtain rfl := Go.Lib.NumEnd.ok.inj h
          omega
    | _ => cases h
theorem itoa_size18 (v : Int) (hb : -9223372036854775808 ≤ v ∧ v ≤ 9223372036854775807) (h : (Go.Lib.itoa v).length ≤ 18 ∨ (v < 0 ∧ (Go.Lib.itoa v).length ≤ 19)) : Sm v := by
  unfold Sm
  have hpow := Go.Lib.lt_pow_nDigits v.natAbs
  have hlen : Go.Lib.nDigits v.natAbs ≤ 18 := by
    unfold Go.Lib.itoa at h
    by_cases hn : v < 0
    · rw [if_pos hn, List.length_cons, Go.Lib.decDigits_length] at h; omega
    · rw [if_neg hn, Go.Lib.decDigits_length, show v.toNat = v.natAbs by omega] at h; omega
  have h2 := Nat.lt_of_lt_of_le hpow (Nat.pow_le_pow_right (n := 10) (j := 18) (by omega) hlen)
  omega
theorem ext_zero (s : ByteArray) (a : Nat) : (s.extract 0 a).data.toList = s.data.toList.take a := by
  rw [Go.Lib.extract_data]; simp
/-- What is left of a text behind a minus. -/
theorem trim_size (s : ByteArray) (hs : s.size ≤ 140737488351232) : ∃ t, strings_TrimPrefix.f s (⟨#[45]⟩ : ByteArray) = some t ∧ t.size = if s.data.toList.head? = some 45 then s.size - 1 else s.size := by
  have hz := Go.Lib.size_eq s
  have h1 : ((⟨#[45]⟩ : ByteArray).size : Int) = 1 := rfl
  unfold strings_TrimPrefix.f stringslite_TrimPrefix.f stringslite_HasPrefix.f
  rw [h1]
  by_cases hc : (s.size : Int) ≥ 1
  · rw [if_pos hc, if_pos (by omega), if_pos (by omega), Option.bind_some]
    have e1 : ((1 : Int)).toNat = 1 := rfl
    rw [e1]
    have hx : ((s.extract 0 1).toList == (⟨#[45]⟩ : ByteArray).toList) = decide (s.data.toList.head? = some 45) := by
      have e2 : (s.extract 0 1).toList = s.data.toList.take 1 := by
        rw [Go.ByteArray.toList_eq, ext_zero]
      have e3 : (⟨#[45]⟩ : ByteArray).toList = [45] := by rw [Go.ByteArray.toList_eq]
      rw [e2, e3]
      cases hl : s.data.toList with
      | nil => rw [hl, List.length_nil] at hz; omega
      | cons c r =>
        simp only [List.take_succ_cons, List.take_zero, List.head?_cons, Option.some.injEq]
        by_cases e : c = 45 <;> simp [e]
    rw [hx]
    by_cases hh : s.data.toList.head? = some 45
    · rw [if_pos (decide_eq_true hh), if_pos (by omega), if_pos (by omega), Option.bind_some, if_pos hh]
      exact ⟨_, rfl, by rw [ByteArray.size_extract]; omega⟩
    · rw [if_neg (by simpa using hh), Option.bind_some, if_neg hh]
      exact ⟨_, rfl, rfl⟩
  · rw [if_neg hc, Option.bind_some]
    have e : s.data.toList = [] := List.length_eq_zero_iff.1 (by omega)
    rw [if_neg (by simp), Option.bind_some, e, if_neg (by simp)]
    exact ⟨_, rfl, rfl⟩
theorem Decimal_it (n : Int) (hb : -9223372036854775808 ≤ n ∧ n ≤ 9223372036854775807) : impl_Decimal.f n = some ⟨(Go.Lib.itoa n).toArray⟩ := by
  unfold impl_Decimal.f strconv_FormatInt.f
  rw [if_pos ⟨rfl, hb⟩]; rfl
/-- The program reads the number whose numeral the text is. -/
theorem readDec_eq (s : ByteArray) (hs : s.size ≤ 140737488351232) :
    (∀ v, Sm v → Go.Lib.itoa v = s.data.toList → impl_ReadDecimal.f s = some (v, true)) ∧ ((∀ v, Sm v → Go.Lib.itoa v ≠ s.data.toList) → impl_ReadDecimal.f s = some (0, false)) := by
  have hz := Go.Lib.size_eq s
  obtain ⟨t, ht, hts⟩ := trim_size s hs
  have eL : ∀ v, (⟨(Go.Lib.itoa v).toArray⟩ : ByteArray).toList = Go.Lib.itoa v := fun v => by rw [Go.ByteArray.toList_eq]
  have eS : s.toList = s.data.toList := Go.ByteArray.toList_eq _
  unfold impl_ReadDecimal.f
  rw [if_pos (by omega), ht]
  refine ⟨fun v hv he => ?_, fun hno => ?_⟩
  · rw [← he, parse_itoa v hv]
    have hb : -9223372036854775808 ≤ v ∧ v ≤ 9223372036854775807 := by unfold Sm at hv; omega
    have h18 : ¬ (t.size : Int) > 18 := by
      unfold Sm at hv
      rw [hts, hz, ← he]
      unfold Go.Lib.itoa
      by_cases hn : v < 0
      · rw [if_pos hn]
        have hd := nDigits_pow 18 v.natAbs (by omega) (by omega)
        rw [if_pos List.head?_cons, List.length_cons, Go.Lib.decDigits_length]; omega
      · rw [if_neg hn]
        have hd := nDigits_pow 18 v.toNat (by omega) (by omega)
        split <;> rw [Go.Lib.decDigits_length] <;> omega
    simp only [Option.bind_some]
    rw [if_neg h18, Decimal_it v hb, Option.bind_some, eL, eS, he, if_pos rfl]
  · cases hp : Go.Lib.parseIntB 64 s.data.toList with
    | ok v =>
      have hb := parse_range _ _ hp
      simp only [Option.bind_some]
      by_cases h18 : (t.size : Int) > 18
      · rw [if_pos h18]
      · rw [if_neg h18, Decimal_it v hb, Option.bind_some, eL, eS]
        by_cases he : Go.Lib.itoa v = s.data.toList
        · exfalso
          refine hno v (itoa_size18 v hb ?_) he
          rw [he, ← hz]
          by_cases hh : s.data.toList.head? = some 45
          · rw [if_pos hh] at hts
            right
            refine ⟨?_, by omega⟩
            rw [← he] at hh
            unfold Go.Lib.itoa at hh
            by_cases hn : v < 0
            · exact hn
            · rw [if_neg hn] at hh
              obtain ⟨c, r, e, _⟩ := decDigits_head v.toNat
              have hd := decDigits_dig v.toNat c (by rw [e]; simp)
              rw [e] at hh
              have : c = 45 := by simpa using hh
              subst this
              unfold isDig at hd
              exact absurd hd (by decide)
          · rw [if_neg hh] at hts; left; omega
        · rw [if_neg he]
    | _ => rfl

theorem FnExactReadDecimal : laws_FnExactReadDecimal.Pure := by
  intro s hs
  refine ⟨100, ?_⟩
  unfold laws_FnExactReadDecimal.f spec_ReadDecimal.f
  by_cases c : (s.size : Int) > 1048576
  · rw [if_pos c]
  · rw [if_neg c]
    obtain ⟨h1, h2⟩ := readDec_eq s hs
    rcases number_eq s hs 100 (by omega) with ⟨v, hv, he, hf⟩ | ⟨hno, hf⟩
    · rw [hf, h1 v hv he]
      simp
    · rw [hf, h2 hno]
      simp

end Go.Proofs.YtfpjcjignplpkaaDoor.Pure
