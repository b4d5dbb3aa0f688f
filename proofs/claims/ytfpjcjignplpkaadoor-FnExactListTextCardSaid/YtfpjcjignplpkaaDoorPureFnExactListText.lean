/- Proved: the plain statement of the law FnExactListText: the program's function and the reference's give the same answer. Conditions: none beyond the statement's own. -/
import Derived.Test.YtfpjcjignplpkaaDoorPFnExactListTextx2
import Derived.Test.YtfpjcjignplpkaaDoorWSized
import Derived.Lib.ParseIntB
import Derived.Lib.ItoaNum
import Derived.Lib.Join
import Derived.Lib.Split
namespace Go.Proofs.YtfpjcjignplpkaaDoor.Pure
open Go.RowKit Go.Proofs.YtfpjcjignplpkaaDoor.PFnExactListText Go.Proofs.YtfpjcjignplpkaaDoorW.PrintWords Go.Proofs.YtfpjcjignplpkaaDoorW.PrintLast
set_option linter.unusedVariables false
set_option linter.unusedSimpArgs false

theorem wr {n : Int} (h : -9223372036854775808 ≤ n ∧ n ≤ 9223372036854775807) : wrap64 n = n := by unfold wrap64; omega

/-- The digits of u, the last ahead, as numbers. -/
def le (u : Nat) : List Int := (Go.Lib.decDigits u).reverse.map fun b => (b.toNat : Int)
theorem le_small (u : Nat) (h : u < 10) : le u = [48 + (u : Int)] := by
  unfold le
  rw [Go.Lib.decDigits, dif_pos h]
  simp only [List.reverse_cons, List.reverse_nil, List.nil_append, List.map_cons, List.map_nil, UInt8.toNat_ofNat']
  rw [Nat.mod_eq_of_lt (by omega)]
  simp
theorem le_big (u : Nat) (h : ¬ u < 10) : le u = (48 + ((u % 10 : Nat) : Int)) :: le (u / 10) := by
  unfold le
  rw [Go.Lib.decDigits, dif_neg h]
  simp only [List.reverse_append, List.reverse_cons, List.reverse_nil, List.nil_append, List.singleton_append, List.map_cons, UInt8.toNat_ofNat']
  rw [Nat.mod_eq_of_lt (by omega)]
  simp
theorem tmod10 (m : Int) : Int.tmod m 10 = if m < 0 then -((m.natAbs % 10 : Nat) : Int) else ((m.natAbs % 10 : Nat) : Int) := by
  by_cases h : m < 0
  · rw [if_pos h]
    obtain ⟨a, rfl⟩ : ∃ a : Int, m = -a := ⟨-m, by omega⟩
    rw [Int.neg_tmod, Int.tmod_eq_emod_of_nonneg (by omega)]
    omega
  · rw [if_neg h, Int.tmod_eq_emod_of_nonneg (by omega)]
    omega
theorem tdiv10 (m : Int) : Int.tdiv m 10 = if m < 0 then -((m.natAbs / 10 : Nat) : Int) else ((m.natAbs / 10 : Nat) : Int) := by
  by_cases h : m < 0
  · rw [if_pos h]
    obtain ⟨a, rfl⟩ : ∃ a : Int, m = -a := ⟨-m, by omega⟩
    rw [Int.neg_tdiv, Int.tdiv_eq_ediv_of_nonneg (by omega)]
    omega
  · rw [if_neg h, Int.tdiv_eq_ediv_of_nonneg (by omega)]
    omega
theorem dec_step (n : Int) (k : Nat) (z : List Int) (m : Int) (h0 : m ≠ 0) (hb : -9223372036854775808 ≤ m ∧ m ≤ 9223372036854775807) (hz : z.length < 1000) :
    spec_l01Dec.l0 (k + 1) n z m = spec_l01Dec.l0 k n (z ++ [48 + ((m.natAbs % 10 : Nat) : Int)]) (Int.tdiv m 10) := by
  have hl : z.length < 140737488355328 := by omega
  have hd : wrap64 (Int.tdiv m 10) = Int.tdiv m 10 := by
    rw [tdiv10]; exact wr (by split <;> omega)
  simp only [spec_l01Dec.l0]
  rw [if_neg h0, hd]
  have hm := tmod10 m
  by_cases c : Int.tmod m 10 < 0
  · rw [if_pos c, if_pos hl]
    have h1 : m < 0 := by
      by_cases q : m < 0
      · exact q
      · rw [if_neg q] at hm; omega
    rw [if_pos h1] at hm
    rw [hm, wr (n := - -((m.natAbs % 10 : Nat) : Int)) (by omega), wr (n := 48 + - -((m.natAbs % 10 : Nat) : Int)) (by omega)]
    congr 3
    omega
  · rw [if_neg c, if_pos hl]
    have h1 : Int.tmod m 10 = ((m.natAbs % 10 : Nat) : Int) := by
      by_cases q : m < 0
      · rw [if_pos q] at hm; omega
      · rw [if_neg q] at hm; exact hm
    rw [h1, wr (n := 48 + ((m.natAbs % 10 : Nat) : Int)) (by omega)]
    congr 3
    omega
theorem dec_l0 (n : Int) (u : Nat) : ∀ (k : Nat) (m : Int) (z : List Int), 1 ≤ u → m.natAbs = u → -9223372036854775808 ≤ m ∧ m ≤ 9223372036854775807 → z.length + Go.Lib.nDigits u < 1000 →
    spec_l01Dec.l0 (k + Go.Lib.nDigits u) n z m = spec_l01Dec.l0 k n (z ++ le u) 0 := by
  induction u using Nat.strongRecOn with
  | _ u ih =>
    intro k m z h1 hm hb hz
    by_cases h : u < 10
    · rw [Go.Lib.nDigits_small h, dec_step n k z m (by omega) hb (by rw [Go.Lib.nDigits_small h] at hz; omega), le_small u h, hm, Nat.mod_eq_of_lt h, tdiv10, hm, Nat.div_eq_of_lt h]
      congr 1
      split <;> simp
    · rw [Go.Lib.nDigits_big h] at hz ⊢
      rw [← Nat.add_assoc, dec_step n _ z m (by omega) hb (by omega), hm, ih (u / 10) (by omega) k (Int.tdiv m 10) _ (by omega) (by rw [tdiv10, hm]; split <;> omega) (by rw [tdiv10]; split <;> omega) (by simp; omega), le_big u h, List.append_assoc]
      rfl
theorem rev_l1 (x : List Int) (hx : x.length ≤ 1000) (i : Nat) : ∀ (k : Nat) (z : List Int), i ≤ x.length → z.length + i ≤ 1000 → i < k →
    spec_l01Dec.l1 k x z ((i : Int) - 1) = some (strOfNums (z ++ (x.take i).reverse)) := by
  induction i with
  | zero =>
    intro k z h1 h2 hk
    obtain ⟨k, rfl⟩ : ∃ m, k = m + 1 := ⟨k - 1, by omega⟩
    simp only [spec_l01Dec.l1]
    rw [if_neg (by omega)]; simp
  | succ i ih =>
    intro k z h1 h2 hk
    obtain ⟨k, rfl⟩ : ∃ m, k = m + 1 := ⟨k - 1, by omega⟩
    have e : ((i + 1 : Nat) : Int) - 1 = (i : Int) := by omega
    have e1 : (i : Int) ≥ 0 := by omega
    have e2 : (i : Int) < (x.length : Int) := by omega
    have e3 : z.length < 140737488355328 := by omega
    have e4 : wrap64 ((i : Int) - 1) = (i : Int) - 1 := wr (by omega)
    have e5 : 0 ≤ (i : Int) := by omega
    have er : rd x i = x[i] := by unfold rd; rw [Int.toNat_natCast, List.getD_eq_getElem?_getD, List.getElem?_eq_getElem (by omega)]; rfl
    simp only [spec_l01Dec.l1, e]
    rw [if_pos e1, if_pos e5, if_pos e2, if_pos e3, e4, er, ih k (z ++ [x[i]]) (by omega) (by simp; omega) (by omega), List.take_succ_eq_append_getElem (by omega), List.reverse_append, List.reverse_singleton, List.append_assoc]
theorem strOf (l : List UInt8) : strOfNums (l.map fun b => (b.toNat : Int)) = ⟨l.toArray⟩ := by
  unfold strOfNums
  simp [List.map_map, Function.comp_def]
theorem nDigits_le (u : Nat) (h : u < 10 ^ 30) : Go.Lib.nDigits u ≤ 30 := by
  rcases Nat.lt_or_ge 30 (Go.Lib.nDigits u) with h1 | h1
  · exfalso
    have : ∀ (j u : Nat), j < Go.Lib.nDigits u → 10 ^ j ≤ u ∨ j = 0 := by
      intro j
      induction j with
      | zero => intro u _; exact .inr rfl
      | succ j ih =>
        intro u hu
        by_cases hs : u < 10
        · rw [Go.Lib.nDigits_small hs] at hu; omega
        · rw [Go.Lib.nDigits_big hs] at hu
          left
          rcases ih (u / 10) (by omega) with q | q
          · rw [Nat.pow_succ]; omega
          · subst q; simp; omega
    rcases this 30 u h1 with q | q <;> omega
  · exact h1
theorem l01Dec_eq (n : Int) (hb : -9223372036854775808 ≤ n ∧ n ≤ 9223372036854775807) (k : Nat) (hk : 200 < k) : spec_l01Dec.f k n = some ⟨(Go.Lib.itoa n).toArray⟩ := by
  unfold spec_l01Dec.f
  by_cases h0 : n = 0
  · subst h0
    rw [if_pos rfl]
    unfold Go.Lib.itoa
    rw [if_neg (by omega), show (0 : Int).toNat = 0 from rfl, Go.Lib.decDigits, dif_pos (by omega)]
    rfl
  · rw [if_neg h0]
    have hd := nDigits_le n.natAbs (by omega)
    obtain ⟨j, rfl⟩ : ∃ j, k = j + 2 + Go.Lib.nDigits n.natAbs := ⟨k - 2 - Go.Lib.nDigits n.natAbs, by omega⟩
    rw [dec_l0 n n.natAbs (j + 2) n [] (by omega) rfl hb (by simp; omega), List.nil_append]
    have hle : (le n.natAbs).length ≤ 30 := by
      unfold le
      rw [List.length_map, List.length_reverse, Go.Lib.decDigits_eq, List.length_map, List.length_range]; exact hd
    have hrev : (le n.natAbs).reverse = (Go.Lib.decDigits n.natAbs).map fun b => (b.toNat : Int) := by
      unfold le; rw [← List.map_reverse, List.reverse_reverse]
    simp only [spec_l01Dec.l0, if_true]
    unfold Go.Lib.itoa
    by_cases hn : n < 0
    · have hl : (le n.natAbs).length < 140737488355328 := by omega
      rw [if_pos hn, if_pos hl, if_pos hn]
      simp only [spec_l01Dec.j1]
      have ew : wrap64 (((le n.natAbs ++ [(45 : Int)]).length : Int) - 1) = ((le n.natAbs ++ [(45 : Int)]).length : Int) - 1 := wr (by simp; omega)
      rw [ew, rev_l1 _ (by simp; omega) (le n.natAbs ++ [(45 : Int)]).length j [] (Nat.le_refl _) (by simp; omega) (by simp; omega), List.take_length, List.nil_append, List.reverse_append, hrev]
      congr 1
      exact strOf (45 :: Go.Lib.decDigits n.natAbs)
    · rw [if_neg hn, if_neg hn]
      simp only [spec_l01Dec.j1]
      rw [wr (n := ((le n.natAbs).length : Int) - 1) (by omega), rev_l1 _ (by omega) (le n.natAbs).length j [] (Nat.le_refl _) (by simp; omega) (by omega), List.take_length, List.nil_append, hrev, show n.toNat = n.natAbs by omega]
      congr 1
      exact strOf _
theorem itoa_size (n : Int) (hb : -9223372036854775808 ≤ n ∧ n ≤ 9223372036854775807) : (⟨(Go.Lib.itoa n).toArray⟩ : ByteArray).size ≤ 32 := by
  have hd := nDigits_le n.natAbs (by omega)
  show ((Go.Lib.itoa n).toArray).size ≤ 32
  unfold Go.Lib.itoa
  split
  · rw [List.size_toArray, List.length_cons, Go.Lib.decDigits_length]; omega
  · rw [List.size_toArray, Go.Lib.decDigits_length, show n.toNat = n.natAbs by omega]; omega
theorem Decimal_eq (n : Int) (hb : -9223372036854775808 ≤ n ∧ n ≤ 9223372036854775807) : impl_Decimal.f n = some ⟨(Go.Lib.itoa n).toArray⟩ := by
  unfold impl_Decimal.f strconv_FormatInt.f
  rw [if_pos ⟨rfl, hb⟩]; rfl

def isDig (b : UInt8) : Prop := 48 ≤ b.toNat ∧ b.toNat ≤ 57
def numAcc (acc : Nat) (l : List UInt8) : Nat := l.foldl (fun n c => n * 10 + (c.toNat - 48)) acc
theorem nA_nil (acc : Nat) : numAcc acc [] = acc := rfl
theorem nA_cons (acc : Nat) (c : UInt8) (r : List UInt8) : numAcc acc (c :: r) = numAcc (acc * 10 + (c.toNat - 48)) r := by unfold numAcc; rw [List.foldl_cons]
theorem numAcc_ge : ∀ (l : List UInt8) (acc : Nat), acc ≤ numAcc acc l
  | [], acc => Nat.le_refl _
  | c :: r, acc => by have := numAcc_ge r (acc * 10 + (c.toNat - 48)); rw [nA_cons]; omega
theorem numAcc_append : ∀ (l r : List UInt8) (acc : Nat), numAcc acc (l ++ r) = numAcc (numAcc acc l) r
  | [], r, acc => by rw [nA_nil, List.nil_append]
  | c :: l, r, acc => by rw [List.cons_append, nA_cons, nA_cons, numAcc_append l r]
theorem numAcc_lt : ∀ (l : List UInt8) (acc : Nat), (∀ c ∈ l, isDig c) → numAcc acc l < (acc + 1) * 10 ^ l.length
  | [], acc, _ => by rw [nA_nil]; simp
  | c :: r, acc, h => by
    have hc : isDig c := h c (by simp)
    have h1 := numAcc_lt r (acc * 10 + (c.toNat - 48)) (fun x hx => h x (by simp [hx]))
    unfold isDig at hc
    rw [nA_cons, List.length_cons, Nat.pow_succ]
    refine Nat.lt_of_lt_of_le h1 ?_
    rw [Nat.mul_comm (10 ^ r.length) 10, ← Nat.mul_assoc]
    exact Nat.mul_le_mul_right _ (by omega)
theorem parseM_ok (M : Nat) (hM : M ≤ 18446744073709551615) : ∀ (l : List UInt8) (acc : Nat), (∀ c ∈ l, isDig c) → numAcc acc l ≤ M → Go.Lib.parseUintM M acc l = .ok (numAcc acc l)
  | [], acc, _, _ => by rw [nA_nil]; rfl
  | c :: r, acc, h, hm => by
    have hc : isDig c := h c (by simp)
    have hg := numAcc_ge r (acc * 10 + (c.toNat - 48))
    rw [nA_cons] at hm ⊢
    rw [Go.Lib.parseUintM, if_pos (show 48 ≤ c.toNat ∧ c.toNat ≤ 57 from hc), if_neg (by omega), if_neg (by omega)]
    exact parseM_ok M hM r _ (fun x hx => h x (by simp [hx])) hm
theorem dig_byte (c : UInt8) (h : isDig c) : UInt8.ofNat (48 + (c.toNat - 48)) = c := by
  unfold isDig at h
  rw [show 48 + (c.toNat - 48) = c.toNat by omega]
  simp
theorem dec_append : ∀ (l : List UInt8) (acc : Nat), 1 ≤ acc → (∀ c ∈ l, isDig c) → Go.Lib.decDigits (numAcc acc l) = Go.Lib.decDigits acc ++ l
  | [], acc, _, _ => by rw [nA_nil]; simp
  | c :: r, acc, h1, h => by
    have hc : isDig c := h c (by simp)
    rw [nA_cons, dec_append r _ (by omega) (fun x hx => h x (by simp [hx]))]
    have e : Go.Lib.decDigits (acc * 10 + (c.toNat - 48)) = Go.Lib.decDigits acc ++ [c] := by
      have hd := dig_byte c hc
      unfold isDig at hc
      rw [Go.Lib.decDigits, dif_neg (by omega), show (acc * 10 + (c.toNat - 48)) / 10 = acc by omega, show (acc * 10 + (c.toNat - 48)) % 10 = c.toNat - 48 by omega, hd]
    rw [e, List.append_assoc]; rfl
/-- A numeral without needless zeros is the numeral of its value. -/
theorem dec_of_digits (c : UInt8) (r : List UInt8) (h : ∀ x ∈ c :: r, isDig x) (hz : c.toNat = 48 → r = []) : Go.Lib.decDigits (numAcc 0 (c :: r)) = c :: r := by
  have hc : isDig c := h c (by simp)
  have hd := dig_byte c hc
  by_cases z : c.toNat = 48
  · have := hz z
    subst this
    rw [nA_cons, nA_nil, Go.Lib.decDigits, dif_pos (by omega)]
    rw [z] at hd ⊢
    rw [show 48 + (0 * 10 + (48 - 48)) = 48 + (48 - 48) by omega, hd]
  · have hc' := hc
    unfold isDig at hc'
    rw [nA_cons, dec_append r _ (by omega) (fun x hx => h x (by simp [hx])), Go.Lib.decDigits, dif_pos (by omega), show 48 + (0 * 10 + (c.toNat - 48)) = 48 + (c.toNat - 48) by omega, hd]; rfl
theorem ofNat_dig (u : Nat) (h : u < 10) : isDig (UInt8.ofNat (48 + u)) ∧ (UInt8.ofNat (48 + u)).toNat = 48 + u := by
  unfold isDig
  rw [UInt8.toNat_ofNat', Nat.mod_eq_of_lt (by omega)]
  omega
theorem decDigits_dig (u : Nat) : ∀ c ∈ Go.Lib.decDigits u, isDig c := by
  induction u using Nat.strongRecOn with
  | _ u ih =>
    intro c hc
    by_cases h : u < 10
    · rw [Go.Lib.decDigits, dif_pos h, List.mem_singleton] at hc
      subst hc; exact (ofNat_dig u h).1
    · rw [Go.Lib.decDigits, dif_neg h, List.mem_append, List.mem_singleton] at hc
      rcases hc with hc | rfl
      · exact ih (u / 10) (by omega) c hc
      · exact (ofNat_dig _ (by omega)).1
theorem numAcc_dec (u : Nat) : numAcc 0 (Go.Lib.decDigits u) = u := by
  induction u using Nat.strongRecOn with
  | _ u ih =>
    by_cases h : u < 10
    · rw [Go.Lib.decDigits, dif_pos h, nA_cons, nA_nil, (ofNat_dig u h).2]; omega
    · rw [Go.Lib.decDigits, dif_neg h, numAcc_append, ih (u / 10) (by omega), nA_cons, nA_nil, (ofNat_dig _ (by omega)).2]; omega
/-- The first digit is no zero, but for zero itself. -/
theorem decDigits_head (u : Nat) : ∃ c r, Go.Lib.decDigits u = c :: r ∧ (c.toNat = 48 → r = []) := by
  induction u using Nat.strongRecOn with
  | _ u ih =>
    by_cases h : u < 10
    · exact ⟨_, [], by rw [Go.Lib.decDigits, dif_pos h], fun _ => rfl⟩
    · obtain ⟨c, r, e, hz⟩ := ih (u / 10) (by omega)
      refine ⟨c, r ++ [UInt8.ofNat (48 + u % 10)], by rw [Go.Lib.decDigits, dif_neg h, e]; rfl, fun z => ?_⟩
      have hr := hz z
      subst hr
      exfalso
      have hn := numAcc_dec (u / 10)
      rw [e, nA_cons, nA_nil, z] at hn
      omega
theorem nDigits_pow : ∀ (k u : Nat), 1 ≤ k → u < 10 ^ k → Go.Lib.nDigits u ≤ k
  | 0, _, h, _ => by omega
  | k + 1, u, _, h => by
    by_cases hs : u < 10
    · rw [Go.Lib.nDigits_small hs]; omega
    · rw [Go.Lib.nDigits_big hs]
      rw [Nat.pow_succ] at h
      cases k with
      | zero => simp at h; omega
      | succ k => have := nDigits_pow (k + 1) (u / 10) (by omega) (by omega); omega
/-- What a numeral of at most 18 digits looks like. -/
def Numeral (l : List UInt8) : Prop := ∃ c r, l = c :: r ∧ l.length ≤ 18 ∧ (∀ x ∈ l, isDig x) ∧ (c.toNat = 48 → r = [])
theorem dec_numeral (u : Nat) (h : u < 1000000000000000000) : Numeral (Go.Lib.decDigits u) := by
  obtain ⟨c, r, e, hz⟩ := decDigits_head u
  refine ⟨c, r, e, ?_, decDigits_dig u, hz⟩
  rw [Go.Lib.decDigits_length]
  exact nDigits_pow 18 u (by omega) (by omega)
theorem numeral_dec (l : List UInt8) (h : Numeral l) : Go.Lib.decDigits (numAcc 0 l) = l ∧ numAcc 0 l < 1000000000000000000 := by
  obtain ⟨c, r, rfl, hl, hd, hz⟩ := h
  refine ⟨dec_of_digits c r hd hz, ?_⟩
  have h1 := numAcc_lt (c :: r) 0 hd
  refine Nat.lt_of_lt_of_le h1 ?_
  rw [Nat.zero_add, Nat.one_mul]
  exact Nat.le_trans (Nat.pow_le_pow_right (by omega) hl) (by omega)

theorem Decimal_it (n : Int) (hb : -9223372036854775808 ≤ n ∧ n ≤ 9223372036854775807) : impl_Decimal.f n = some ⟨(Go.Lib.itoa n).toArray⟩ := by
  unfold impl_Decimal.f strconv_FormatInt.f
  rw [if_pos ⟨rfl, hb⟩]; rfl
theorem itoa_size2 (n : Int) (hb : -9223372036854775808 ≤ n ∧ n ≤ 9223372036854775807) : (⟨(Go.Lib.itoa n).toArray⟩ : ByteArray).size ≤ 32 := by
  have hd := nDigits_pow 20 n.natAbs (by omega) (by omega)
  show ((Go.Lib.itoa n).toArray).size ≤ 32
  unfold Go.Lib.itoa
  split
  · rw [List.size_toArray, List.length_cons, Go.Lib.decDigits_length]; omega
  · rw [List.size_toArray, Go.Lib.decDigits_length, show n.toNat = n.natAbs by omega]; omega

/-- A text cut at each byte c. -/
def pcs (c : UInt8) : List UInt8 → List (List UInt8)
  | [] => [[]]
  | b :: l => if b = c then [] :: pcs c l else match pcs c l with
    | [] => [[b]]
    | p :: ps => (b :: p) :: ps
theorem pcs_free (c : UInt8) : ∀ (p : List UInt8), c ∉ p → pcs c p = [p]
  | [], _ => rfl
  | b :: l, h => by
    have h1 : b ≠ c := fun e => h (by rw [e]; exact List.mem_cons_self ..)
    rw [pcs, if_neg h1, pcs_free c l (fun hm => h (List.mem_cons_of_mem _ hm))]
theorem pcs_app (c : UInt8) (q : List UInt8) : ∀ (p : List UInt8), c ∉ p → pcs c (p ++ c :: q) = p :: pcs c q
  | [], _ => by rw [List.nil_append, pcs, if_pos rfl]
  | b :: l, h => by
    have h1 : b ≠ c := fun e => h (by rw [e]; exact List.mem_cons_self ..)
    rw [List.cons_append, pcs, if_neg h1, pcs_app c q l (fun hm => h (List.mem_cons_of_mem _ hm))]
/-- A text is free of a byte, or has a first one. -/
theorem first_of (c : UInt8) : ∀ (l : List UInt8), c ∉ l ∨ ∃ p q, l = p ++ c :: q ∧ c ∉ p
  | [] => .inl (by simp)
  | b :: l => by
    by_cases e : b = c
    · exact .inr ⟨[], l, by rw [e]; rfl, by simp⟩
    · rcases first_of c l with h | ⟨p, q, rfl, hp⟩
      · exact .inl (by intro hm; rcases List.mem_cons.1 hm with h1 | h1; exact e h1.symm; exact h h1)
      · exact .inr ⟨b :: p, q, rfl, by intro hm; rcases List.mem_cons.1 hm with h1 | h1; exact e h1.symm; exact hp h1⟩
theorem idx_free (c : UInt8) : ∀ (p : List UInt8), c ∉ p → Go.Lib.index p [c] = -1 := by
  intro p h
  rw [Go.Lib.index_one]
  induction p with
  | nil => rfl
  | cons b l ih =>
    have h1 : b ≠ c := fun e => h (by rw [e]; exact List.mem_cons_self ..)
    rw [Go.Lib.indexByte, ih (fun hm => h (List.mem_cons_of_mem _ hm)), if_neg (by simpa using h1), if_pos (by decide)]
theorem idx_app (c : UInt8) (q : List UInt8) : ∀ (p : List UInt8), c ∉ p → Go.Lib.index (p ++ c :: q) [c] = (p.length : Int) := by
  intro p h
  rw [Go.Lib.index_one]
  induction p with
  | nil => rw [List.nil_append, Go.Lib.indexByte, if_pos (by simp)]; rfl
  | cons b l ih =>
    have h1 : b ≠ c := fun e => h (by rw [e]; exact List.mem_cons_self ..)
    rw [List.cons_append, Go.Lib.indexByte, ih (fun hm => h (List.mem_cons_of_mem _ hm)), if_neg (by simpa using h1), if_neg (by rw [beq_iff_eq]; omega), List.length_cons]
    omega
theorem pcs_pos (c : UInt8) (l : List UInt8) : 1 ≤ (pcs c l).length := by
  rcases first_of c l with h | ⟨p, q, rfl, hp⟩
  · rw [pcs_free c l h]; simp
  · rw [pcs_app c q p hp]; simp
/-- The library's cuts, at most k. -/
theorem splitK_pcs (c : UInt8) : ∀ (k : Nat) (l : List UInt8), ((pcs c l).length ≤ k + 1 → Go.Lib.splitK [c] 0 k l = pcs c l) ∧
    (k + 1 < (pcs c l).length → ∃ ps r, Go.Lib.splitK [c] 0 k l = ps ++ [r] ∧ ps.length = k ∧ c ∈ r)
  | 0, l => by
    rcases first_of c l with h | ⟨p, q, rfl, hp⟩
    · rw [pcs_free c l h]; exact ⟨fun _ => rfl, fun h => by simp at h⟩
    · rw [pcs_app c q p hp]
      have := pcs_pos c q
      exact ⟨fun h => by rw [List.length_cons] at h; omega, fun _ => ⟨[], _, rfl, rfl, by simp⟩⟩
  | k + 1, l => by
    rcases first_of c l with h | ⟨p, q, rfl, hp⟩
    · rw [pcs_free c l h]
      refine ⟨fun _ => ?_, fun h => by simp at h⟩
      rw [Go.Lib.splitK, if_pos (by rw [idx_free c l h]; rfl)]
    · obtain ⟨i1, i2⟩ := splitK_pcs c k q
      have e : Go.Lib.splitK [c] 0 (k + 1) (p ++ c :: q) = p :: Go.Lib.splitK [c] 0 k q := by
        rw [Go.Lib.splitK, if_neg (by rw [idx_app c q p hp, beq_iff_eq]; omega), idx_app c q p hp, Int.toNat_natCast, Nat.add_zero, List.take_left' rfl]
        congr 2
        rw [← List.drop_drop, List.drop_left' rfl]; rfl
      rw [pcs_app c q p hp, e]
      refine ⟨fun h => by rw [i1 (by rw [List.length_cons] at h; omega)], fun h => ?_⟩
      obtain ⟨ps, r, e1, e2, e3⟩ := i2 (by rw [List.length_cons] at h; omega)
      exact ⟨p :: ps, r, by rw [e1]; rfl, by rw [List.length_cons, e2], e3⟩
theorem pcs_count (c : UInt8) : ∀ (n : Nat) (l : List UInt8), l.length ≤ n → (pcs c l).length = Go.Lib.count l [c] + 1
  | n, l, hn => by
    rcases first_of c l with h | ⟨p, q, rfl, hp⟩
    · rw [pcs_free c l h, Go.Lib.count_miss (idx_free c l h)]; rfl
    · have e : (p ++ c :: q).drop (p.length + [c].length) = q := by rw [← List.drop_drop, List.drop_left' rfl]; rfl
      rw [pcs_app c q p hp, Go.Lib.count_hit (by simp) (idx_app c q p hp), e, List.length_cons]
      have hq : q.length < (p ++ c :: q).length := by simp; omega
      match n, hn with
      | 0, hn => omega
      | n + 1, hn => rw [pcs_count c n q (by omega)]; omega
/-- The pieces joined again. -/
theorem join_pcs (c : UInt8) : ∀ (n : Nat) (l : List UInt8), l.length ≤ n → Go.Lib.join (pcs c l) [c] = l
  | n, l, hn => by
    rcases first_of c l with h | ⟨p, q, rfl, hp⟩
    · rw [pcs_free c l h, Go.Lib.join_one]
    · rw [pcs_app c q p hp]
      have hq : q.length < (p ++ c :: q).length := by simp; omega
      match n, hn with
      | 0, hn => omega
      | n + 1, hn =>
        have ih := join_pcs c n q (by omega)
        have hne : pcs c q ≠ [] := fun e => by have := pcs_pos c q; rw [e] at this; simp at this
        obtain ⟨x, r, e⟩ := List.exists_cons_of_ne_nil hne
        rw [e] at ih ⊢
        rw [Go.Lib.join_cons] at ih ⊢
        rw [Go.Lib.joinTail, List.map_cons, List.flatten_cons]
        rw [Go.Lib.joinTail] at ih
        rw [List.append_assoc, ih]; rfl
theorem pcs_mem (c : UInt8) : ∀ (n : Nat) (l : List UInt8), l.length ≤ n → ∀ p ∈ pcs c l, c ∉ p ∧ p.length ≤ l.length
  | n, l, hn => by
    rcases first_of c l with h | ⟨p, q, rfl, hp⟩
    · rw [pcs_free c l h]; intro p hm; rw [List.mem_singleton.1 hm]; exact ⟨h, Nat.le_refl _⟩
    · rw [pcs_app c q p hp]
      have hq : q.length < (p ++ c :: q).length := by simp; omega
      match n, hn with
      | 0, hn => omega
      | n + 1, hn =>
        intro x hx
        rcases List.mem_cons.1 hx with rfl | hx
        · exact ⟨hp, by simp⟩
        · obtain ⟨h1, h2⟩ := pcs_mem c n q (by omega) x hx
          exact ⟨h1, by omega⟩
theorem pcs_len (c : UInt8) : ∀ (n : Nat) (l : List UInt8), l.length ≤ n → (pcs c l).length ≤ l.length + 1
  | n, l, hn => by
    rcases first_of c l with h | ⟨p, q, rfl, hp⟩
    · rw [pcs_free c l h]; simp
    · rw [pcs_app c q p hp]
      have hq : q.length < (p ++ c :: q).length := by simp; omega
      match n, hn with
      | 0, hn => omega
      | n + 1, hn => have := pcs_len c n q (by omega); rw [List.length_cons]; omega
/-- A text of its bytes. -/
def toB (l : List UInt8) : ByteArray := ⟨l.toArray⟩
theorem toB_data (s : ByteArray) : toB s.data.toList = s := by cases s; rfl
theorem data_toB (l : List UInt8) : (toB l).data.toList = l := rfl
theorem toB_size (l : List UInt8) : (toB l).size = l.length := by rw [Go.Lib.size_eq]; rfl
theorem ba_eq {a b : ByteArray} (h : a.data.toList = b.data.toList) : a = b := by rw [← toB_data a, ← toB_data b, h]
theorem map_toB (xs : List ByteArray) (ps : List (List UInt8)) (h : xs.map (·.data.toList) = ps) : xs = ps.map toB := by
  rw [← h, List.map_map]
  exact (List.map_id xs).symm.trans (List.map_congr_left fun x _ => (toB_data x).symm)
theorem extract_toB (s : ByteArray) (a b : Nat) : s.extract a b = toB ((s.data.toList.drop a).take (b - a)) := by
  refine ba_eq ?_
  rw [Go.Lib.extract_data, data_toB]
theorem splitB_pcs (c : UInt8) (s : ByteArray) : Go.Lib.splitB (toB [c]) 0 (Go.Lib.countB s (toB [c])) s = (pcs c s.data.toList).map toB := by
  refine map_toB _ _ ?_
  rw [Go.Lib.splitB_data]
  exact (splitK_pcs c _ _).1 (by rw [pcs_count c _ _ (Nat.le_refl _)]; exact Nat.le_refl _)

theorem within_eq (a b c : Int) : impl_within.f a b c = some (decide (b ≤ a ∧ a ≤ c)) := by
  unfold impl_within.f
  by_cases h : a ≥ b <;> simp [h]

theorem toB_app (a b : List UInt8) : toB a ++ toB b = toB (a ++ b) := by
  refine ba_eq ?_
  unfold toB
  simp [ByteArray.data_append]
theorem join_snoc (sep y : List UInt8) (xs : List (List UInt8)) (h : xs ≠ []) : Go.Lib.join (xs ++ [y]) sep = Go.Lib.join xs sep ++ sep ++ y := by
  obtain ⟨x, r, rfl⟩ := List.exists_cons_of_ne_nil h
  rw [List.cons_append, Go.Lib.join_cons, Go.Lib.join_cons]
  unfold Go.Lib.joinTail
  simp
/-- The numerals of a list of numbers, with commas. -/
def numsText (l : List Int) : List UInt8 := Go.Lib.join (l.map Go.Lib.itoa) [44]
def I64 (v : Int) : Prop := -9223372036854775808 ≤ v ∧ v ≤ 9223372036854775807
theorem numsText_snoc (l : List Int) (v : Int) (h : l ≠ []) : numsText (l ++ [v]) = numsText l ++ 44 :: Go.Lib.itoa v := by
  unfold numsText
  rw [List.map_append, List.map_singleton, join_snoc _ _ _ (by simpa using h), List.append_assoc]; rfl
theorem numsText_one (v : Int) : numsText [v] = Go.Lib.itoa v := by unfold numsText; rw [List.map_singleton, Go.Lib.join_one]
theorem itoa_len (v : Int) (h : I64 v) : (Go.Lib.itoa v).length ≤ 32 := by
  have := itoa_size2 v h
  rwa [show (⟨(Go.Lib.itoa v).toArray⟩ : ByteArray).size = (Go.Lib.itoa v).length from List.size_toArray ..] at this
theorem numsText_len (n : Nat) : ∀ (l : List Int), l.length ≤ n → (∀ v ∈ l, I64 v) → (numsText l).length ≤ 33 * l.length := by
  induction n with
  | zero =>
    intro l h _
    obtain rfl := List.length_eq_zero_iff.1 (Nat.le_zero.1 h)
    exact Nat.le_refl _
  | succ n ih =>
    intro l h hv
    rcases List.eq_nil_or_concat l with rfl | ⟨m, x, rfl⟩
    · exact Nat.zero_le _
    · rw [List.concat_eq_append] at h hv ⊢
      have hx := itoa_len x (hv x (by simp))
      have hm := ih m (by simp at h; omega) (fun v hm => hv v (by simp [hm]))
      by_cases e : m = []
      · subst e; rw [List.nil_append, numsText_one]; simp; omega
      · rw [numsText_snoc m x e, List.length_append, List.length_cons, List.length_append, List.length_singleton]; omega
/-- In the list's range. -/
def Mv (v : Int) : Prop := -1000000000000 ≤ v ∧ v ≤ 1000000000000
instance MvDec (v : Int) : Decidable (Mv v) := by unfold Mv; infer_instance
/-- A list's text. -/
def listTxt (l : List Int) : ByteArray := if 64 < l.length then toB [] else if l = [] then toB [45] else if ∀ v ∈ l, Mv v then toB (numsText l) else toB []
theorem join_toB (l : List Int) : joined (l.map fun v => toB (Go.Lib.itoa v)) (toB [44]) = numsText l := by
  unfold joined numsText
  rw [List.map_map]
  rfl
theorem lt_l0 (l : List Int) (h1 : l.length ≤ 64) (hv : ∀ v ∈ l, I64 v) (d : Nat) : ∀ (k i : Nat), l.length = i + d → d < k → (∀ v ∈ l.take i, Mv v) →
    impl_ListText.l0 k ((l.take i).map fun v => toB (Go.Lib.itoa v)) l l.length i = some (if ∀ v ∈ l, Mv v then toB (numsText l) else toB []) := by
  induction d with
  | zero =>
    intro k i hd hk ht
    obtain ⟨k, rfl⟩ : ∃ m, k = m + 1 := ⟨k - 1, by omega⟩
    have e1 : ¬ (i : Int) < (l.length : Int) := by omega
    have hl := numsText_len l.length l (Nat.le_refl _) hv
    rw [List.take_of_length_le (by omega)] at ht ⊢
    simp only [impl_ListText.l0]
    rw [if_neg e1, if_pos ht]
    unfold strings_Join.f
    rw [show (⟨#[44]⟩ : ByteArray) = toB [44] from rfl, join_toB, if_pos ⟨by rw [List.length_map]; omega, by omega⟩]
    rfl
  | succ d ih =>
    intro k i hd hk ht
    obtain ⟨k, rfl⟩ : ∃ m, k = m + 1 := ⟨k - 1, by omega⟩
    have hi : i < l.length := by omega
    have e1 : (i : Int) < (l.length : Int) := by omega
    have e2 : 0 ≤ (i : Int) := by omega
    have ew : wrap64 ((i : Int) + 1) = ((i + 1 : Nat) : Int) := by rw [wr (n := (i : Int) + 1) (by omega)]; omega
    have er : rd l (i : Int) = l[i] := by unfold rd; rw [Int.toNat_natCast, List.getD_eq_getElem?_getD, List.getElem?_eq_getElem hi]; rfl
    have hx := hv l[i] (List.getElem_mem hi)
    simp only [impl_ListText.l0]
    rw [if_pos e1, if_pos e2, if_pos e1, er, within_eq, Option.bind_some]
    by_cases hm : Mv l[i]
    · rw [decide_eq_true (show -1000000000000 ≤ l[i] ∧ l[i] ≤ 1000000000000 from hm), if_pos rfl, Decimal_it _ hx, Option.bind_some, if_pos (by rw [List.length_map, List.length_take]; omega), ew]
      have h := ih k (i + 1) (by omega) (by omega) (by
        intro v hvm
        rw [List.take_succ_eq_append_getElem hi] at hvm
        rcases List.mem_append.1 hvm with h | h
        · exact ht v h
        · rw [List.mem_singleton.1 h]; exact hm)
      rw [List.take_succ_eq_append_getElem hi, List.map_append, List.map_singleton] at h
      exact h
    · rw [decide_eq_false (show ¬ (-1000000000000 ≤ l[i] ∧ l[i] ≤ 1000000000000) from hm), if_neg (by simp), if_neg (fun h => hm (h _ (List.getElem_mem hi)))]
      rfl
theorem ListText_eq (k : Nat) (l : List Int) (hl : l.length ≤ 1048576) (hv : ∀ v ∈ l, I64 v) (hk : 70 < k) : impl_ListText.f k l = some (listTxt l) := by
  unfold impl_ListText.f listTxt
  by_cases h1 : (l.length : Int) > 64
  · rw [if_pos h1, if_pos (by omega)]; rfl
  · rw [if_neg h1, if_neg (show ¬ 64 < l.length by omega)]
    by_cases h2 : (l.length : Int) = 0
    · rw [if_pos h2, if_pos (List.length_eq_zero_iff.1 (by omega))]; rfl
    · rw [if_neg h2, if_neg (show ¬ l = [] from fun e => h2 (by rw [e]; rfl)), if_pos (by omega), if_pos (by omega)]
      have := lt_l0 l (by omega) hv l.length k 0 (by omega) (by omega) (by simp)
      rw [List.take_zero, List.map_nil] at this
      exact this

theorem set_take_step (l m : List Int) (i : Nat) (hi : i < l.length) (hm : m = l.take i ++ List.replicate (l.length - i) 0) :
    m.set i (rd l i) = l.take (i + 1) ++ List.replicate (l.length - (i + 1)) 0 := by
  subst hm
  have e : rd l i = l[i] := by unfold rd; simp [List.getD_eq_getElem?_getD, hi]
  have h1 : (l.take i).length = i := by simp; omega
  have : l.length - i = (l.length - (i + 1)) + 1 := by omega
  rw [e, List.take_succ_eq_append_getElem hi, this, List.replicate_succ, List.set_append_right _ _ (by omega), h1, Nat.sub_self, List.set_cons_zero, List.append_assoc]
  rfl
theorem toInts_l0 (l : List Int) (hl : l.length ≤ 1048576) (d : Nat) : ∀ (k i : Nat) (m : List Int), l.length = i + d → d < k →
    m = l.take i ++ List.replicate (l.length - i) 0 → laws_toInt64S.l0 k l m i = some l := by
  induction d with
  | zero =>
    intro k i m hd hk hm
    obtain ⟨k, rfl⟩ : ∃ m, k = m + 1 := ⟨k - 1, by omega⟩
    simp only [laws_toInt64S.l0]; rw [if_neg (by omega), hm, show l.length - i = 0 by omega, List.take_of_length_le (by omega)]; simp
  | succ d ih =>
    intro k i m hd hk hm
    obtain ⟨k, rfl⟩ : ∃ m, k = m + 1 := ⟨k - 1, by omega⟩
    have hml : m.length = l.length := by subst hm; simp; omega
    simp only [laws_toInt64S.l0]
    rw [if_pos (by omega), if_pos (by omega), if_pos (by omega), wr (n := (i : Int) + 1) (by omega), show ((i : Int) + 1) = ((i + 1 : Nat) : Int) by omega]
    apply ih k (i + 1) _ (by omega) (by omega)
    rw [Int.toNat_natCast]
    exact set_take_step l m i (by omega) hm
theorem toInts_eq (k : Nat) (l : List Int) (hl : l.length ≤ 1048576) (hk : l.length < k) : laws_toInt64S.f k l = some l := by
  unfold laws_toInt64S.f
  rw [if_pos (by omega), if_pos (by omega)]
  exact toInts_l0 l hl l.length k 0 _ (by omega) hk (by simp)

theorem eqInts_l0 (a b : List Int) (hl : a.length ≤ 1048576) (he : a.length = b.length) (d : Nat) : ∀ (k i : Nat), a.length = i + d → d < k →
    ∃ r, laws_eqInt64S.l0 k a b i = some r ∧ (r = true ↔ ∀ j : Nat, i ≤ j → j < a.length → rd a j = rd b j) := by
  induction d with
  | zero =>
    intro k i hd hk
    obtain ⟨k, rfl⟩ : ∃ m, k = m + 1 := ⟨k - 1, by omega⟩
    exact ⟨true, by simp only [laws_eqInt64S.l0]; rw [if_neg (by omega)], by simp; intro j h1 h2; omega⟩
  | succ d ih =>
    intro k i hd hk
    obtain ⟨k, rfl⟩ : ∃ m, k = m + 1 := ⟨k - 1, by omega⟩
    simp only [laws_eqInt64S.l0]
    rw [if_pos (by omega), if_pos (by omega), if_pos (by omega), wr (n := (i : Int) + 1) (by omega), show ((i : Int) + 1) = ((i + 1 : Nat) : Int) by omega]
    obtain ⟨r, hr, hiff⟩ := ih k (i + 1) (by omega) (by omega)
    by_cases hc : rd a i = rd b i
    · refine ⟨r, by rw [if_pos hc, hr], ?_⟩
      rw [hiff]
      constructor
      · intro h j h1 h2
        by_cases e : j = i
        · subst e; exact hc
        · exact h j (by omega) h2
      · intro h j h1 h2; exact h j (by omega) h2
    · exact ⟨false, by rw [if_neg hc], by simp; exact ⟨i, by omega, by omega, hc⟩⟩
theorem rd_nat (l : List Int) (j : Nat) : rd l j = l.getD j 0 := rfl
theorem rd_lt (l : List Int) (j : Nat) (h : j < l.length) : rd l j = l[j] := by rw [rd_nat]; simp [List.getD_eq_getElem?_getD, h]
theorem eqInts_eq (k : Nat) (a b : List Int) (hl : a.length ≤ 1048576) (hk : a.length < k) : laws_eqInt64S.f k a b = some (decide (a = b)) := by
  unfold laws_eqInt64S.f
  by_cases h : (a.length : Int) = (b.length : Int)
  · rw [if_pos h]
    obtain ⟨r, hr, hiff⟩ := eqInts_l0 a b hl (by omega) a.length k 0 (by omega) hk
    rw [show ((0 : Int)) = ((0 : Nat) : Int) by rfl, hr]; congr 1; rw [Bool.eq_iff_iff, hiff, decide_eq_true_iff]
    constructor
    · intro hh
      apply List.ext_getElem (by omega)
      intro j h1 h2
      have := hh j (by omega) h1
      rwa [rd_lt a j h1, rd_lt b j h2] at this
    · rintro rfl j _ _; rfl
  · rw [if_neg h]; congr 1; symm; rw [decide_eq_false_iff_not]; rintro rfl; exact h rfl
theorem eqInts_self (k : Nat) (a : List Int) (hl : a.length ≤ 1048576) (hk : a.length < k) : laws_eqInt64S.f k a a = some true := by
  rw [eqInts_eq k a a hl hk]; simp

theorem l00In_eq (a b c : Int) : spec_l00In.f a b c = some (decide (b ≤ a ∧ a ≤ c)) := by
  unfold spec_l00In.f
  by_cases h : a ≥ b <;> simp [h]

theorem wf64 {n : Int} (h : (Lit.int .i64 n).wf = true) : -9223372036854775808 ≤ n ∧ n ≤ 9223372036854775807 := by
  have e1 : IntKind.i64.min = -9223372036854775808 := by decide
  have e2 : IntKind.i64.max = 9223372036854775807 := by decide
  simp only [Lit.wf, Bool.and_eq_true, decide_eq_true_eq, e1, e2] at h
  exact h

theorem fits_l0 (l : List Int) (hl : l.length ≤ 1048576) (d : Nat) : ∀ (k i : Nat), l.length = i + d → d < k → (∀ v ∈ l.take i, Mv v) →
    spec_l01Fits.l0 k l i = some (decide ((∀ v ∈ l, Mv v) ∧ l.length ≤ 64)) := by
  induction d with
  | zero =>
    intro k i hd hk ht
    obtain ⟨k, rfl⟩ : ∃ m, k = m + 1 := ⟨k - 1, by omega⟩
    have e1 : ¬ (i : Int) < (l.length : Int) := by omega
    rw [List.take_of_length_le (by omega)] at ht
    simp only [spec_l01Fits.l0]
    rw [if_neg e1]
    congr 1
    rw [Bool.eq_iff_iff, decide_eq_true_iff, decide_eq_true_iff]
    exact ⟨fun h => ⟨ht, by omega⟩, fun h => by omega⟩
  | succ d ih =>
    intro k i hd hk ht
    obtain ⟨k, rfl⟩ : ∃ m, k = m + 1 := ⟨k - 1, by omega⟩
    have hi : i < l.length := by omega
    have e1 : (i : Int) < (l.length : Int) := by omega
    have e2 : 0 ≤ (i : Int) := by omega
    have ew : wrap64 ((i : Int) + 1) = ((i + 1 : Nat) : Int) := by rw [wr (n := (i : Int) + 1) (by omega)]; omega
    have er : rd l (i : Int) = l[i] := by unfold rd; rw [Int.toNat_natCast, List.getD_eq_getElem?_getD, List.getElem?_eq_getElem hi]; rfl
    simp only [spec_l01Fits.l0]
    rw [if_pos e1, if_pos e2, er, l00In_eq, Option.bind_some]
    by_cases hm : Mv l[i]
    · rw [decide_eq_true (show -1000000000000 ≤ l[i] ∧ l[i] ≤ 1000000000000 from hm), if_pos rfl, ew]
      exact ih k (i + 1) (by omega) (by omega) (by
        intro v hvm
        rw [List.take_succ_eq_append_getElem hi] at hvm
        rcases List.mem_append.1 hvm with h | h
        · exact ht v h
        · rw [List.mem_singleton.1 h]; exact hm)
    · rw [decide_eq_false (show ¬ (-1000000000000 ≤ l[i] ∧ l[i] ≤ 1000000000000) from hm), if_neg (by simp), decide_eq_false (fun h => hm (h.1 _ (List.getElem_mem hi)))]
theorem list_l0 (l : List Int) (h1 : l.length ≤ 64) (hv : ∀ v ∈ l, I64 v) (d : Nat) : ∀ (k i : Nat), l.length = i + d → 300 + d < k →
    spec_l01List.l0 k l (toB (numsText (l.take i))) i = some (toB (numsText l)) := by
  induction d with
  | zero =>
    intro k i hd hk
    obtain ⟨k, rfl⟩ : ∃ m, k = m + 1 := ⟨k - 1, by omega⟩
    have e1 : ¬ (i : Int) < (l.length : Int) := by omega
    rw [List.take_of_length_le (by omega)]
    simp only [spec_l01List.l0]
    rw [if_neg e1]
  | succ d ih =>
    intro k i hd hk
    obtain ⟨k, rfl⟩ : ∃ m, k = m + 1 := ⟨k - 1, by omega⟩
    have hi : i < l.length := by omega
    have e1 : (i : Int) < (l.length : Int) := by omega
    have e2 : 0 ≤ (i : Int) := by omega
    have ew : wrap64 ((i : Int) + 1) = ((i + 1 : Nat) : Int) := by rw [wr (n := (i : Int) + 1) (by omega)]; omega
    have er : rd l (i : Int) = l[i] := by unfold rd; rw [Int.toNat_natCast, List.getD_eq_getElem?_getD, List.getElem?_eq_getElem hi]; rfl
    have hx := hv l[i] (List.getElem_mem hi)
    have hxl := itoa_len _ hx
    have htl := numsText_len i (l.take i) (by rw [List.length_take]; omega) (fun v hm => hv v (List.mem_of_mem_take hm))
    rw [List.length_take] at htl
    have hn := ih k (i + 1) (by omega) (by omega)
    rw [List.take_succ_eq_append_getElem hi] at hn
    have hdec := l01Dec_eq l[i] hx k (by omega)
    have eB : (⟨(Go.Lib.itoa l[i]).toArray⟩ : ByteArray) = toB (Go.Lib.itoa l[i]) := rfl
    have eC : (⟨#[44]⟩ : ByteArray) = toB [44] := rfl
    simp only [spec_l01List.l0]
    rw [if_pos e1, er, hdec, eB, eC, ew]
    by_cases h0 : (i : Int) > 0
    · have hne : l.take i ≠ [] := by
        intro h
        have := congrArg List.length h
        rw [List.length_take, List.length_nil] at this; omega
      rw [numsText_snoc _ _ hne] at hn
      rw [if_pos h0, if_pos (by rw [toB_size]; omega), if_pos e2, Option.bind_some, toB_app, if_pos (by rw [toB_size, toB_size, List.length_append, List.length_singleton]; omega), toB_app, List.append_assoc]
      exact hn
    · obtain rfl : i = 0 := by omega
      rw [List.take_zero, List.nil_append, numsText_one] at hn
      rw [if_neg h0, if_pos e2, Option.bind_some, List.take_zero, if_pos (by rw [toB_size, toB_size]; unfold numsText; rw [List.map_nil, Go.Lib.join_nil, List.length_nil]; omega), toB_app]
      unfold numsText at hn ⊢
      rw [List.map_nil, Go.Lib.join_nil, List.nil_append]
      exact hn
theorem specText_eq (k : Nat) (l : List Int) (hl : l.length ≤ 1048576) (hv : ∀ v ∈ l, I64 v) (hk : 1048976 < k) : spec_ListText.f k l = some (listTxt l) := by
  unfold spec_ListText.f spec_l01Fits.f spec_l01List.f
  have h0 := fits_l0 l hl l.length k 0 (by omega) (by omega) (by simp)
  rw [Int.natCast_zero] at h0
  rw [h0, Option.bind_some]
  unfold listTxt
  by_cases h1 : 64 < l.length
  · rw [if_pos h1, if_neg (by rw [decide_eq_true_iff]; omega)]; rfl
  · rw [if_neg h1]
    by_cases h2 : l = []
    · subst h2; simp; rfl
    · have h4 : ¬ (l.length : Int) = 0 := fun h => h2 (List.length_eq_zero_iff.1 (by omega))
      rw [if_neg h2]
      by_cases h3 : ∀ v ∈ l, Mv v
      · rw [if_pos (decide_eq_true ⟨h3, by omega⟩), if_pos h3, if_neg h4]
        have := list_l0 l (by omega) hv l.length k 0 (by omega) (by omega)
        rw [List.take_zero] at this
        rw [show (⟨#[]⟩ : ByteArray) = toB (numsText []) from rfl, show (0 : Int) = ((0 : Nat) : Int) from rfl, this]; rfl
      · rw [if_neg (show ¬ decide ((∀ v ∈ l, Mv v) ∧ l.length ≤ 64) = true by rw [decide_eq_true_iff]; exact fun h => h3 h.1), if_neg h3]; rfl
theorem FnExactListText : laws_FnExactListText.Pure := by
  intro l _ _ hw
  by_cases h : (l.length : Int) > 1048576
  · exact ⟨0, by unfold laws_FnExactListText.f; rw [if_pos h]⟩
  · have hl : l.length ≤ 1048576 := by omega
    have hv : ∀ v ∈ l, I64 v := fun v hm => wf64 (hw v hm)
    refine ⟨1048977, ?_⟩
    unfold laws_FnExactListText.f
    rw [if_neg h, toInts_eq _ l hl (by omega)]; simp only [Option.bind_some]
    rw [specText_eq _ l hl hv (by omega), ListText_eq _ l hl hv (by omega)]; simp only [Option.bind_some, if_true]
    rw [eqInts_self _ l hl (by omega)]; simp


end Go.Proofs.YtfpjcjignplpkaaDoor.Pure
namespace Go.Proofs.YtfpjcjignplpkaaDoor.PrintWords
/-- The words' lemma, under the name by which the printed row asks for it. -/
abbrev sized_ints := @Go.Proofs.YtfpjcjignplpkaaDoorW.PrintWords.sized_ints
end Go.Proofs.YtfpjcjignplpkaaDoor.PrintWords
namespace Go.Proofs.YtfpjcjignplpkaaDoor.Pure

end Go.Proofs.YtfpjcjignplpkaaDoor.Pure
