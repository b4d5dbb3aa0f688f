/- Proved: the plain statement of the law FnExactCommonTones: the program's function and the reference's give the same answer. Conditions: none beyond the statement's own. -/
import Derived.Test.YtnmpkijibhidaaaPFnExactCommonTonesx3
import Derived.Test.YtnmpkijibhidaaaWSized
namespace Go.Proofs.Ytnmpkijibhidaaa.Pure
open Go.RowKit Go.Proofs.Ytnmpkijibhidaaa.PFnExactCommonTones Go.Proofs.YtnmpkijibhidaaaW.PrintWords Go.Proofs.YtnmpkijibhidaaaW.PrintLast
set_option linter.unusedVariables false
set_option linter.unusedSimpArgs false

theorem wr {n : Int} (h : -9223372036854775808 ≤ n ∧ n ≤ 9223372036854775807) : wrap64 n = n := by unfold wrap64; omega

theorem l00In_eq (a b c : Int) : spec_l00In.f a b c = some (decide (b ≤ a ∧ a ≤ c)) := by
  unfold spec_l00In.f
  by_cases h : a ≥ b <;> simp [h]

/-- A list that is a scale. -/
def Scale (l : List Int) : Prop := 5 ≤ l.length ∧ rd l 0 = 0 ∧ (∀ j : Nat, j < l.length → 0 < j → rd l ((j : Int) - 1) < rd l j) ∧ rd l ((l.length : Int) - 1) < 12
instance scaleDec (l : List Int) : Decidable (Scale l) := by unfold Scale; infer_instance

theorem Scale.ge {l : List Int} (h : Scale l) : ∀ j : Nat, j < l.length → (j : Int) ≤ rd l j := by
  intro j
  induction j with
  | zero => intro _; have := h.2.1; simp; omega
  | succ j ih =>
    intro hj
    have := ih (by omega)
    have h2 := h.2.2.1 (j + 1) hj (by omega)
    rw [show (((j + 1 : Nat) : Int) - 1) = (j : Int) by omega] at h2
    omega
theorem Scale.lt {l : List Int} (h : Scale l) : ∀ d j : Nat, j + d + 1 = l.length → rd l j < 12 - d := by
  intro d
  induction d with
  | zero => intro j hj; have := h.2.2.2; rw [show ((l.length : Int) - 1) = (j : Int) by omega] at this; omega
  | succ d ih =>
    intro j hj
    have := ih (j + 1) (by omega)
    have h2 := h.2.2.1 (j + 1) (by omega) (by omega)
    rw [show (((j + 1 : Nat) : Int) - 1) = (j : Int) by omega] at h2
    omega
theorem Scale.range {l : List Int} (h : Scale l) (j : Nat) (hj : j < l.length) : 0 ≤ rd l j ∧ rd l j ≤ 11 := by
  have h1 := h.ge j hj
  have h2 := h.lt (l.length - 1 - j) j (by omega)
  omega
theorem Scale.len {l : List Int} (h : Scale l) : 5 ≤ l.length ∧ l.length ≤ 12 := by
  refine ⟨h.1, ?_⟩
  have h1 := h.1
  have h2 := h.ge (l.length - 1) (by omega)
  have h3 := h.range (l.length - 1) (by omega)
  omega

theorem rises_l0 (l : List Int) (hl : l.length ≤ 1048576) (lo hi : Int) (d : Nat) : ∀ (k i : Nat), l.length = i + d → d < k →
    ∃ r, spec_l00Rises.l0 k l lo hi i = some r ∧ (r = true ↔ ∀ j : Nat, i ≤ j → j < l.length → (lo ≤ rd l j ∧ rd l j ≤ hi) ∧ (0 < j → rd l ((j : Int) - 1) < rd l j)) := by
  induction d with
  | zero =>
    intro k i hd hk
    obtain ⟨k, rfl⟩ : ∃ m, k = m + 1 := ⟨k - 1, by omega⟩
    exact ⟨true, by simp only [spec_l00Rises.l0]; rw [if_neg (by omega)], by simp; intro j h1 h2; omega⟩
  | succ d ih =>
    intro k i hd hk
    obtain ⟨k, rfl⟩ : ∃ m, k = m + 1 := ⟨k - 1, by omega⟩
    simp only [spec_l00Rises.l0]
    rw [if_pos (by omega), if_pos (by omega), l00In_eq, Option.bind_some, wr (n := (i : Int) + 1) (by omega), wr (n := (i : Int) - 1) (by omega), show ((i : Int) + 1) = ((i + 1 : Nat) : Int) by omega]
    obtain ⟨r, hr, hiff⟩ := ih k (i + 1) (by omega) (by omega)
    rw [hr]
    by_cases hc : lo ≤ rd l i ∧ rd l i ≤ hi
    · rw [if_pos (decide_eq_true hc)]
      by_cases h0 : i = 0
      · refine ⟨r, by rw [if_neg (by omega)], ?_⟩
        rw [hiff]
        constructor
        · intro h j h1 h2
          by_cases e : j = i
          · subst e; exact ⟨hc, fun h => by omega⟩
          · exact h j (by omega) h2
        · intro h j h1 h2; exact h j (by omega) h2
      · rw [if_pos (by omega), if_pos (by omega), if_pos (by omega)]
        by_cases hr2 : rd l ((i : Int) - 1) < rd l i
        · refine ⟨r, by rw [if_neg (by omega)], ?_⟩
          rw [hiff]
          constructor
          · intro h j h1 h2
            by_cases e : j = i
            · subst e; exact ⟨hc, fun _ => hr2⟩
            · exact h j (by omega) h2
          · intro h j h1 h2; exact h j (by omega) h2
        · refine ⟨false, by rw [if_pos (by omega)], ?_⟩
          simp only [Bool.false_eq_true, false_iff]
          intro h; exact hr2 ((h i (by omega) (by omega)).2 (by omega))
    · refine ⟨false, by rw [if_neg (by simp; omega)], ?_⟩
      simp only [Bool.false_eq_true, false_iff]
      intro h; exact hc (h i (by omega) (by omega)).1

theorem increasing_l0 (l : List Int) (hl : l.length ≤ 1048576) (d : Nat) : ∀ (k i : Nat), 0 < i → l.length ≤ i + d → d < k → i ≤ 1048577 →
    ∃ r, impl_increasing.l0 k l i = some r ∧ (r = true ↔ ∀ j : Nat, i ≤ j → j < l.length → rd l ((j : Int) - 1) < rd l j) := by
  induction d with
  | zero =>
    intro k i hi hd hk hb
    obtain ⟨k, rfl⟩ : ∃ m, k = m + 1 := ⟨k - 1, by omega⟩
    exact ⟨true, by simp only [impl_increasing.l0]; rw [if_neg (by omega)], by simp; intro j h1 h2; omega⟩
  | succ d ih =>
    intro k i hi hd hk hb
    obtain ⟨k, rfl⟩ : ∃ m, k = m + 1 := ⟨k - 1, by omega⟩
    simp only [impl_increasing.l0]
    by_cases hlt : i < l.length
    · rw [if_pos (by omega), if_pos (by omega), wr (n := (i : Int) + 1) (by omega), wr (n := (i : Int) - 1) (by omega), show ((i : Int) + 1) = ((i + 1 : Nat) : Int) by omega, if_pos (by omega), if_pos (by omega)]
      obtain ⟨r, hr, hiff⟩ := ih k (i + 1) (by omega) (by omega) (by omega) (by omega)
      rw [hr]
      by_cases hr2 : rd l ((i : Int) - 1) < rd l i
      · refine ⟨r, by rw [if_neg (by omega)], ?_⟩
        rw [hiff]
        constructor
        · intro h j h1 h2
          by_cases e : j = i
          · subst e; exact hr2
          · exact h j (by omega) h2
        · intro h j h1 h2; exact h j (by omega) h2
      · refine ⟨false, by rw [if_pos (by omega)], ?_⟩
        simp only [Bool.false_eq_true, false_iff]
        intro h; exact hr2 (h i (by omega) hlt)
    · exact ⟨true, by rw [if_neg (by omega)], by simp; intro j h1 h2; omega⟩

theorem l03Scale_eq (k : Nat) (l : List Int) (hl : l.length ≤ 1048576) (hk : l.length < k) : spec_l03Scale.f k l = some (decide (Scale l)) := by
  unfold spec_l03Scale.f spec_l00Rises.f
  by_cases h5 : (l.length : Int) ≥ 5
  · obtain ⟨r, hr, hiff⟩ := rises_l0 l hl 0 11 l.length k 0 (by omega) hk
    simp only [Int.natCast_zero] at hr
    rw [if_pos h5, hr, Option.bind_some]
    by_cases h : r = true
    · rw [if_pos h, if_pos (by omega)]
      have hh := hiff.1 h
      congr 1; rw [Bool.eq_iff_iff, beq_iff_eq, decide_eq_true_iff]
      constructor
      · intro e
        refine ⟨by omega, e, fun j h2 h1 => (hh j (by omega) h2).2 h1, ?_⟩
        have := (hh (l.length - 1) (by omega) (by omega)).1.2
        rw [show ((l.length - 1 : Nat) : Int) = (l.length : Int) - 1 by omega] at this
        omega
      · intro e; exact e.2.1
    · rw [if_neg h]; congr 1; symm; rw [decide_eq_false_iff_not]
      intro e
      exact h (hiff.2 fun j _ h2 => ⟨e.range j h2, fun h1 => e.2.2.1 j h2 h1⟩)
  · rw [if_neg h5]; congr 1; symm; rw [decide_eq_false_iff_not]; intro e; exact h5 (by have := e.1; omega)

theorem ValidScale_eq (k : Nat) (l : List Int) (hl : l.length ≤ 1048576) (hk : l.length < k) : impl_ValidScale.f k l = some (decide (Scale l)) := by
  unfold impl_ValidScale.f impl_increasing.f
  by_cases h5 : (l.length : Int) ≥ 5
  · rw [if_pos h5, if_pos (by omega)]
    by_cases h0 : rd l 0 = 0
    · rw [if_pos h0]
      obtain ⟨r, hr, hiff⟩ := increasing_l0 l hl (l.length - 1) k 1 (by omega) (by omega) (by omega) (by omega)
      rw [show ((1 : Int)) = ((1 : Nat) : Int) by rfl, hr, Option.bind_some, show (((1 : Nat)) : Int) = 1 by rfl]
      by_cases h : r = true
      · rw [if_pos h, wr (n := (l.length : Int) - 1) (by omega), if_pos (by omega), if_pos (by omega)]
        congr 1; rw [Bool.eq_iff_iff, decide_eq_true_iff, decide_eq_true_iff]
        have hh := hiff.1 h
        constructor
        · intro e; exact ⟨by omega, h0, fun j h2 h1 => hh j (by omega) h2, e⟩
        · intro e; exact e.2.2.2
      · rw [if_neg h]; congr 1; symm; rw [decide_eq_false_iff_not]
        intro e; exact h (hiff.2 fun j h1 h2 => e.2.2.1 j h2 (by omega))
    · rw [if_neg h0]; congr 1; symm; rw [decide_eq_false_iff_not]; intro e; exact h0 e.2.1
  · rw [if_neg h5]; congr 1; symm; rw [decide_eq_false_iff_not]; intro e; exact h5 (by have := e.1; omega)

theorem has_l0 (l : List Int) (a : Int) (hl : l.length ≤ 1048576) (d : Nat) : ∀ (i : Nat), l.length = i + d →
    ∃ (r : Bool) (v : Int), (∀ k, d < k → spec_l00Has.l0 k l a i = some r ∧ slices_Index_int64_int64.l0 k l a l.length i = some v) ∧ r = decide (v ≥ 0) ∧ (r = true → ∃ j : Nat, j < l.length ∧ rd l j = a) := by
  induction d with
  | zero =>
    intro i hd
    refine ⟨false, -1, fun k hk => ?_, by decide, by simp⟩
    obtain ⟨k, rfl⟩ : ∃ m, k = m + 1 := ⟨k - 1, by omega⟩
    simp only [spec_l00Has.l0, slices_Index_int64_int64.l0]
    rw [if_neg (by omega), if_neg (by omega)]; exact ⟨rfl, rfl⟩
  | succ d ih =>
    intro i hd
    by_cases hc : rd l i = a
    · refine ⟨true, (i : Int), fun k hk => ?_, by simp, fun _ => ⟨i, by omega, hc⟩⟩
      obtain ⟨k, rfl⟩ : ∃ m, k = m + 1 := ⟨k - 1, by omega⟩
      simp only [spec_l00Has.l0, slices_Index_int64_int64.l0]
      rw [if_pos (by omega), if_pos (by omega), if_pos hc, if_pos (by omega), if_pos (by omega), if_pos (by omega), if_pos hc.symm]; exact ⟨rfl, rfl⟩
    · obtain ⟨r, v, h1, h2, h3⟩ := ih (i + 1) (by omega)
      refine ⟨r, v, fun k hk => ?_, h2, h3⟩
      obtain ⟨k, rfl⟩ : ∃ m, k = m + 1 := ⟨k - 1, by omega⟩
      simp only [spec_l00Has.l0, slices_Index_int64_int64.l0]
      rw [if_pos (by omega), if_pos (by omega), if_neg hc, if_pos (by omega), if_pos (by omega), if_pos (by omega), if_neg (fun h => hc h.symm), wr (n := (i : Int) + 1) (by omega), show ((i : Int) + 1) = ((i + 1 : Nat) : Int) by omega]
      exact h1 k (by omega)
theorem has_eq (l : List Int) (a : Int) (hl : l.length ≤ 1048576) : ∃ r : Bool, (∀ k, l.length < k → spec_l00Has.f k l a = some r ∧ slices_Contains_int64_int64.f k l a = some r) ∧ (r = true → ∃ j : Nat, j < l.length ∧ rd l j = a) := by
  obtain ⟨r, v, h1, h2, h3⟩ := has_l0 l a hl l.length 0 (by omega)
  refine ⟨r, fun k hk => ?_, h3⟩
  unfold spec_l00Has.f slices_Contains_int64_int64.f slices_Index_int64_int64.f
  have := h1 k hk
  simp only [Int.natCast_zero] at this
  rw [this.1, this.2, Option.bind_some, h2]; exact ⟨rfl, rfl⟩

theorem set_take_step (l m : List Int) (i : Nat) (hi : i < l.length) (hm : m = l.take i ++ List.replicate (l.length - i) 0) :
    m.set i (rd l i) = l.take (i + 1) ++ List.replicate (l.length - (i + 1)) 0 := by
  subst hm
  have e : rd l i = l[i] := by unfold rd; simp [List.getD_eq_getElem?_getD, hi]
  have h1 : (l.take i).length = i := by simp; omega
  have : l.length - i = (l.length - (i + 1)) + 1 := by omega
  rw [e, List.take_succ_eq_append_getElem hi, this, List.replicate_succ, List.set_append_right _ _ (by omega), h1, Nat.sub_self, List.set_cons_zero, List.append_assoc]
  rfl
theorem toInts_l0 (l : List Int) (hl : l.length ≤ 1048576) (d : Nat) : ∀ (k i : Nat) (m : List Int), l.length = i + d → d < k →
    m = l.take i ++ List.replicate (l.length - i) 0 → laws_toInt64S.l0 k l m i = some l := by
  induction d with
  | zero =>
    intro k i m hd hk hm
    obtain ⟨k, rfl⟩ : ∃ m, k = m + 1 := ⟨k - 1, by omega⟩
    simp only [laws_toInt64S.l0]; rw [if_neg (by omega), hm, show l.length - i = 0 by omega, List.take_of_length_le (by omega)]; simp
  | succ d ih =>
    intro k i m hd hk hm
    obtain ⟨k, rfl⟩ : ∃ m, k = m + 1 := ⟨k - 1, by omega⟩
    have hml : m.length = l.length := by subst hm; simp; omega
    simp only [laws_toInt64S.l0]
    rw [if_pos (by omega), if_pos (by omega), if_pos (by omega), wr (n := (i : Int) + 1) (by omega), show ((i : Int) + 1) = ((i + 1 : Nat) : Int) by omega]
    apply ih k (i + 1) _ (by omega) (by omega)
    rw [Int.toNat_natCast]
    exact set_take_step l m i (by omega) hm
theorem toInts_eq (k : Nat) (l : List Int) (hl : l.length ≤ 1048576) (hk : l.length < k) : laws_toInt64S.f k l = some l := by
  unfold laws_toInt64S.f
  rw [if_pos (by omega), if_pos (by omega)]
  exact toInts_l0 l hl l.length k 0 _ (by omega) hk (by simp)

theorem eqInts_l0 (a b : List Int) (hl : a.length ≤ 1048576) (he : a.length = b.length) (d : Nat) : ∀ (k i : Nat), a.length = i + d → d < k →
    ∃ r, laws_eqInt64S.l0 k a b i = some r ∧ (r = true ↔ ∀ j : Nat, i ≤ j → j < a.length → rd a j = rd b j) := by
  induction d with
  | zero =>
    intro k i hd hk
    obtain ⟨k, rfl⟩ : ∃ m, k = m + 1 := ⟨k - 1, by omega⟩
    exact ⟨true, by simp only [laws_eqInt64S.l0]; rw [if_neg (by omega)], by simp; intro j h1 h2; omega⟩
  | succ d ih =>
    intro k i hd hk
    obtain ⟨k, rfl⟩ : ∃ m, k = m + 1 := ⟨k - 1, by omega⟩
    simp only [laws_eqInt64S.l0]
    rw [if_pos (by omega), if_pos (by omega), if_pos (by omega), wr (n := (i : Int) + 1) (by omega), show ((i : Int) + 1) = ((i + 1 : Nat) : Int) by omega]
    obtain ⟨r, hr, hiff⟩ := ih k (i + 1) (by omega) (by omega)
    by_cases hc : rd a i = rd b i
    · refine ⟨r, by rw [if_pos hc, hr], ?_⟩
      rw [hiff]
      constructor
      · intro h j h1 h2
        by_cases e : j = i
        · subst e; exact hc
        · exact h j (by omega) h2
      · intro h j h1 h2; exact h j (by omega) h2
    · exact ⟨false, by rw [if_neg hc], by simp; exact ⟨i, by omega, by omega, hc⟩⟩
theorem rd_nat (l : List Int) (j : Nat) : rd l j = l.getD j 0 := rfl
theorem rd_lt (l : List Int) (j : Nat) (h : j < l.length) : rd l j = l[j] := by rw [rd_nat]; simp [List.getD_eq_getElem?_getD, h]
theorem eqInts_eq (k : Nat) (a b : List Int) (hl : a.length ≤ 1048576) (hk : a.length < k) : laws_eqInt64S.f k a b = some (decide (a = b)) := by
  unfold laws_eqInt64S.f
  by_cases h : (a.length : Int) = (b.length : Int)
  · rw [if_pos h]
    obtain ⟨r, hr, hiff⟩ := eqInts_l0 a b hl (by omega) a.length k 0 (by omega) hk
    rw [show ((0 : Int)) = ((0 : Nat) : Int) by rfl, hr]; congr 1; rw [Bool.eq_iff_iff, hiff, decide_eq_true_iff]
    constructor
    · intro hh
      apply List.ext_getElem (by omega)
      intro j h1 h2
      have := hh j (by omega) h1
      rwa [rd_lt a j h1, rd_lt b j h2] at this
    · rintro rfl j _ _; rfl
  · rw [if_neg h]; congr 1; symm; rw [decide_eq_false_iff_not]; rintro rfl; exact h rfl
theorem eqInts_self (k : Nat) (a : List Int) (hl : a.length ≤ 1048576) (hk : a.length < k) : laws_eqInt64S.f k a a = some true := by
  rw [eqInts_eq k a a hl hk]; simp

/-- The numbers from m on, n of them. -/
def seqI : Nat → Int → List Int
  | 0, _ => []
  | n + 1, m => m :: seqI n (m + 1)
theorem seqI_length (n : Nat) : ∀ m, (seqI n m).length = n := by
  induction n with
  | zero => intro m; rfl
  | succ n ih => intro m; simp [seqI, ih]
theorem mark_l0 (d : Nat) : ∀ (k i : Nat) (m : Int) (pre post : List Int), pre.length = i → post.length = d → i + d ≤ 1048576 → 0 ≤ m → m + d ≤ 2000000 → d < k →
    laws_markInt64S.l0 k (pre ++ post) m i = some (m + d, pre ++ seqI d m) := by
  induction d with
  | zero =>
    intro k i m pre post h2 h3 h4 h5 h6 hk
    obtain ⟨k, rfl⟩ : ∃ m, k = m + 1 := ⟨k - 1, by omega⟩
    obtain rfl := List.length_eq_zero_iff.1 h3
    simp only [laws_markInt64S.l0]; rw [if_neg (by simp; omega)]; simp [seqI]
  | succ d ih =>
    intro k i m pre post h2 h3 h4 h5 h6 hk
    obtain ⟨k, rfl⟩ : ∃ m, k = m + 1 := ⟨k - 1, by omega⟩
    cases post with
    | nil => simp at h3
    | cons x post =>
      have hp : post.length = d := by simpa using h3
      have hlen : (pre ++ x :: post).length = i + d + 1 := by simp; omega
      simp only [laws_markInt64S.l0]
      rw [if_pos (by omega), if_pos (by omega), wr (n := m + 1) (by omega), wr (n := (i : Int) + 1) (by omega), Int.toNat_natCast, List.set_append_right _ _ (by omega), h2, Nat.sub_self, List.set_cons_zero, show ((i : Int) + 1) = ((i + 1 : Nat) : Int) by omega]
      have := ih k (i + 1) (m + 1) (pre ++ [m]) post (by simp [h2]) hp (by omega) (by omega) (by omega) (by omega)
      rw [List.append_assoc] at this
      rw [show m :: post = [m] ++ post from rfl, this]
      congr 2
      · omega
      · simp [seqI]
theorem mark_eq (k : Nat) (l : List Int) (hl : l.length ≤ 1048576) (hk : l.length < k) : laws_markInt64S.f k l 1 = some (1 + (l.length : Int), seqI l.length 1) := by
  unfold laws_markInt64S.f
  have := mark_l0 l.length k 0 1 [] l rfl rfl (by omega) (by omega) (by omega) hk
  simpa using this
theorem held_l0 (d : Nat) : ∀ (k i : Nat) (m : Int) (pre : List Int), pre.length = i → i + d ≤ 1048576 → 0 ≤ m → m + d ≤ 2000000 → d < k →
    laws_heldInt64S.l0 k (pre ++ seqI d m) m i = some (m + d) := by
  induction d with
  | zero =>
    intro k i m pre h2 h4 h5 h6 hk
    obtain ⟨k, rfl⟩ : ∃ m, k = m + 1 := ⟨k - 1, by omega⟩
    have hl : (pre ++ seqI 0 m).length = i := by simp [seqI, h2]
    simp only [laws_heldInt64S.l0]; rw [if_neg (by omega)]; simp
  | succ d ih =>
    intro k i m pre h2 h4 h5 h6 hk
    obtain ⟨k, rfl⟩ : ∃ m, k = m + 1 := ⟨k - 1, by omega⟩
    have hlen : (pre ++ seqI (d + 1) m).length = i + d + 1 := by rw [List.length_append, seqI_length]; omega
    have hr : rd (pre ++ seqI (d + 1) m) i = m := by
      unfold rd
      rw [Int.toNat_natCast, List.getD_eq_getElem?_getD, List.getElem?_append_right (by omega), h2, Nat.sub_self]
      rfl
    simp only [laws_heldInt64S.l0]
    rw [if_pos (by omega), if_pos (by omega), if_pos hr, wr (n := m + 1) (by omega), wr (n := (i : Int) + 1) (by omega), show ((i : Int) + 1) = ((i + 1 : Nat) : Int) by omega]
    have := ih k (i + 1) (m + 1) (pre ++ [m]) (by simp [h2]) (by omega) (by omega) (by omega) (by omega)
    rw [List.append_assoc] at this
    rw [show seqI (d + 1) m = [m] ++ seqI d (m + 1) from rfl, this]
    congr 1; omega
theorem held_eq (k n : Nat) (hl : n ≤ 1048576) (hk : n < k) : laws_heldInt64S.f k (seqI n 1) 1 = some (1 + (n : Int)) := by
  unfold laws_heldInt64S.f
  have := held_l0 n k 0 1 [] rfl (by omega) (by omega) (by omega) hk
  simpa using this

theorem mark2_l0 (d : Nat) : ∀ (k i : Nat) (m : Int) (pre post : List Int), pre.length = i → post.length = d → i + d ≤ 1048576 → 0 ≤ m → m + d ≤ 4611686018427387904 → d < k →
    laws_markInt64S.l0 k (pre ++ post) m i = some (m + d, pre ++ seqI d m) := by
  induction d with
  | zero =>
    intro k i m pre post h2 h3 h4 h5 h6 hk
    obtain ⟨k, rfl⟩ : ∃ m, k = m + 1 := ⟨k - 1, by omega⟩
    obtain rfl := List.length_eq_zero_iff.1 h3
    simp only [laws_markInt64S.l0]; rw [if_neg (by simp; omega)]; simp [seqI]
  | succ d ih =>
    intro k i m pre post h2 h3 h4 h5 h6 hk
    obtain ⟨k, rfl⟩ : ∃ m, k = m + 1 := ⟨k - 1, by omega⟩
    cases post with
    | nil => simp at h3
    | cons x post =>
      have hp : post.length = d := by simpa using h3
      have hlen : (pre ++ x :: post).length = i + d + 1 := by simp; omega
      simp only [laws_markInt64S.l0]
      rw [if_pos (by omega), if_pos (by omega), wr (n := m + 1) (by omega), wr (n := (i : Int) + 1) (by omega), Int.toNat_natCast, List.set_append_right _ _ (by omega), h2, Nat.sub_self, List.set_cons_zero, show ((i : Int) + 1) = ((i + 1 : Nat) : Int) by omega]
      have := ih k (i + 1) (m + 1) (pre ++ [m]) post (by simp [h2]) hp (by omega) (by omega) (by omega) (by omega)
      rw [List.append_assoc] at this
      rw [show m :: post = [m] ++ post from rfl, this]
      congr 2
      · omega
      · simp [seqI]
theorem mark2_eq (k : Nat) (l : List Int) (m : Int) (hl : l.length ≤ 1048576) (h0 : 0 ≤ m) (hm : m ≤ 4000000000000) (hk : l.length < k) : laws_markInt64S.f k l m = some (m + (l.length : Int), seqI l.length m) := by
  unfold laws_markInt64S.f
  have := mark2_l0 l.length k 0 m [] l rfl rfl (by omega) h0 (by omega) hk
  simpa using this

theorem hasC (l : List Int) (hl : l.length ≤ 1048576) (x : Int) (k : Nat) (hk : l.length < k) : spec_l00Has.f k l x = some (impl_CommonTones_1.has l x) := by
  obtain ⟨r, h, _⟩ := has_eq l x hl
  unfold impl_CommonTones_1.has
  rw [(h k hk).1, (h (l.length + 2) (by omega)).2]; rfl
theorem common_l0 (x y : List Int) (hx : x.length ≤ 1048576) (hy : y.length ≤ 1048576) (d : Nat) : ∀ (i : Nat) (z : List Int), x.length = i + d → z.length ≤ i → ∀ k, 1048600 + d < k →
    spec_CommonTones.l0 k x y z i = some (z ++ (x.drop i).filter (fun a => impl_CommonTones_1.has y a), 0) := by
  induction d with
  | zero =>
    intro i z hd hz k hk
    obtain ⟨k, rfl⟩ : ∃ m, k = m + 1 := ⟨k - 1, by omega⟩
    have e : ¬ (i : Int) < (x.length : Int) := by omega
    simp only [spec_CommonTones.l0]
    rw [if_neg e, List.drop_eq_nil_of_le (by omega)]; simp
  | succ d ih =>
    intro i z hd hz k hk
    obtain ⟨k, rfl⟩ : ∃ m, k = m + 1 := ⟨k - 1, by omega⟩
    have e : (i : Int) < (x.length : Int) := by omega
    have e0 : 0 ≤ (i : Int) := by omega
    have ew : wrap64 ((i : Int) + 1) = ((i + 1 : Nat) : Int) := by rw [wr (n := (i : Int) + 1) (by omega)]; omega
    have q : z.length < 17592186044416 := by omega
    have hd2 : x.drop i = x[i] :: x.drop (i + 1) := List.drop_eq_getElem_cons (by omega)
    have hr : rd x (i : Int) = x[i] := rd_lt x i (by omega)
    simp only [spec_CommonTones.l0]
    rw [if_pos e, if_pos e0, hasC y hy _ k (by omega), Option.bind_some, ew, hr, hd2, List.filter_cons]
    by_cases c : impl_CommonTones_1.has y x[i] = true
    · rw [if_pos c, if_pos q, if_pos c, ih (i + 1) (z ++ [x[i]]) (by omega) (by simp; omega) k (by omega), List.append_assoc]; rfl
    · rw [if_neg c, if_neg c, ih (i + 1) z (by omega) (by omega) k (by omega)]
theorem common_eq (x y : List Int) (hx : x.length ≤ 1048576) (hy : y.length ≤ 1048576) : ∃ r : List Int × Int, r.1.length ≤ 1048576 ∧ ∀ k, 3000000 < k → spec_CommonTones.f k x y = some r ∧ impl_CommonTones.f k x y = some r := by
  unfold spec_CommonTones.f impl_CommonTones.f
  by_cases h1 : Scale x
  · by_cases h2 : Scale y
    · have hl := h1.len
      have hc : 0 < x.length ∧ x.length < 1000 := by omega
      refine ⟨(x.filter fun a => impl_CommonTones_1.has y a, 0), by have := List.length_filter_le (fun a => impl_CommonTones_1.has y a) x; dsimp only; omega, fun k hk => ?_⟩
      obtain ⟨k, rfl⟩ : ∃ m, k = m + 1 := ⟨k - 1, by omega⟩
      have hq := common_l0 x y hx hy x.length 0 [] (by omega) (by simp) k (by omega)
      simp only [Int.natCast_zero, List.nil_append, List.drop_zero] at hq
      rw [l03Scale_eq _ x hx (by omega), l03Scale_eq _ y hy (by omega), ValidScale_eq _ x hx (by omega), ValidScale_eq _ y hy (by omega)]
      simp only [decide_eq_true h1, decide_eq_true h2, Option.bind_some, if_true, if_pos hc, spec_CommonTones.j0, Bool.not_true, Bool.false_eq_true, if_false]
      exact ⟨hq, trivial⟩
    · refine ⟨([], 1), by simp, fun k hk => ?_⟩
      obtain ⟨k, rfl⟩ : ∃ m, k = m + 1 := ⟨k - 1, by omega⟩
      rw [l03Scale_eq _ x hx (by omega), l03Scale_eq _ y hy (by omega), ValidScale_eq _ x hx (by omega), ValidScale_eq _ y hy (by omega)]
      simp [h1, h2, spec_CommonTones.j0]
  · refine ⟨([], 1), by simp, fun k hk => ?_⟩
    obtain ⟨k, rfl⟩ : ∃ m, k = m + 1 := ⟨k - 1, by omega⟩
    rw [l03Scale_eq _ x hx (by omega), ValidScale_eq _ x hx (by omega)]
    simp [h1, spec_CommonTones.j0]
theorem FnExactCommonTones : laws_FnExactCommonTones.Pure := by
  intro x y _ _ _ _ _ _
  refine ⟨4000003, ?_⟩
  unfold laws_FnExactCommonTones.f
  by_cases c1 : (x.length : Int) > 1048576
  · rw [if_pos c1]
  · rw [if_neg c1]
    by_cases c2 : (y.length : Int) > 1048576
    · rw [if_pos c2]
    · rw [if_neg c2]
      have hx : x.length ≤ 1048576 := by omega
      have hy : y.length ≤ 1048576 := by omega
      have tx : ∀ k, 4000000 ≤ k → laws_toInt64S.f k x = some x := fun k hk => toInts_eq k x hx (by omega)
      have ty : ∀ k, 4000000 ≤ k → laws_toInt64S.f k y = some y := fun k hk => toInts_eq k y hy (by omega)
      have ex : ∀ k, 4000000 ≤ k → laws_eqInt64S.f k x x = some true := fun k hk => eqInts_self k x hx (by omega)
      have ey : ∀ k, 4000000 ≤ k → laws_eqInt64S.f k y y = some true := fun k hk => eqInts_self k y hy (by omega)
      obtain ⟨⟨r1, r2⟩, hl, hq⟩ := common_eq x y hx hy
      dsimp only at hl
      have er : ∀ k, 4000000 ≤ k → laws_eqInt64S.f k r1 r1 = some true := fun k hk => eqInts_self k r1 hl (by omega)
      have c3 : ¬ (1 + (x.length : Int) + (y.length : Int)) < 0 := by omega
      have c4 : ¬ (1 + (r1.length : Int)) < 0 := by omega
      rw [tx _ (by omega), Option.bind_some, ty _ (by omega), Option.bind_some, (hq 4000003 (by omega)).1, Option.bind_some, Option.bind_some, Option.bind_some, (hq 4000003 (by omega)).2, Option.bind_some]
      dsimp only
      rw [er _ (by omega), Option.bind_some, if_pos rfl, bne_self_eq_false]
      rw [show (4000003 : Nat) = 4000002 + 1 from rfl]
      simp only [laws_FnExactCommonTones.j0, Bool.false_eq_true, if_false]
      rw [tx _ (by omega), Option.bind_some, ex _ (by omega), Option.bind_some, if_pos rfl, ty _ (by omega), Option.bind_some, ey _ (by omega), Option.bind_some, if_pos rfl, mark_eq _ x hx (by omega), Option.bind_some]
      dsimp only
      rw [mark2_eq _ y _ hy (by omega) (by omega) (by omega), Option.bind_some]
      dsimp only
      rw [if_neg c3, er _ (by omega), Option.bind_some, if_pos rfl, bne_self_eq_false]
      rw [show (4000002 : Nat) = 4000001 + 1 from rfl]
      simp only [laws_FnExactCommonTones.j1, Bool.false_eq_true, if_false]
      rw [mark_eq _ r1 hl (by omega), Option.bind_some]
      dsimp only
      rw [held_eq _ _ hl (by omega), Option.bind_some, if_neg c4, if_pos rfl, tx _ (by omega), Option.bind_some, ty _ (by omega), Option.bind_some, (hq 4000001 (by omega)).2, Option.bind_some]
      dsimp only
      rw [er _ (by omega), Option.bind_some, if_pos rfl, bne_self_eq_false]
      rw [show (4000001 : Nat) = 4000000 + 1 from rfl]
      simp only [laws_FnExactCommonTones.j2, Bool.false_eq_true, if_false]
      rw [held_eq _ _ hl (by omega), Option.bind_some, if_neg c4, if_pos rfl]


end Go.Proofs.Ytnmpkijibhidaaa.Pure
namespace Go.Proofs.Ytnmpkijibhidaaa.PrintWords
/-- The words' lemma, under the name by which the printed row asks for it. -/
abbrev sized_ints := @Go.Proofs.YtnmpkijibhidaaaW.PrintWords.sized_ints
end Go.Proofs.Ytnmpkijibhidaaa.PrintWords
namespace Go.Proofs.Ytnmpkijibhidaaa.Pure

end Go.Proofs.Ytnmpkijibhidaaa.Pure
