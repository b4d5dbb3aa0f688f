/- Proved: the plain statement of the law FnExactDegreeOf: the program's function and the reference's give the same answer. Conditions: none beyond the statement's own. -/
import Derived.Test.YtnmpkijibhidaaaPFnExactDegreeOfx2
import Derived.Test.YtnmpkijibhidaaaWSized
namespace Go.Proofs.Ytnmpkijibhidaaa.Pure
open Go.RowKit Go.Proofs.Ytnmpkijibhidaaa.PFnExactDegreeOf Go.Proofs.YtnmpkijibhidaaaW.PrintWords Go.Proofs.YtnmpkijibhidaaaW.PrintLast
set_option linter.unusedVariables false
set_option linter.unusedSimpArgs false

theorem wr {n : Int} (h : -9223372036854775808 ≤ n ∧ n ≤ 9223372036854775807) : wrap64 n = n := by unfold wrap64; omega

theorem l00In_eq (a b c : Int) : spec_l00In.f a b c = some (decide (b ≤ a ∧ a ≤ c)) := by
  unfold spec_l00In.f
  by_cases h : a ≥ b <;> simp [h]

/-- A list that is a scale. -/
def Scale (l : List Int) : Prop := 5 ≤ l.length ∧ rd l 0 = 0 ∧ (∀ j : Nat, j < l.length → 0 < j → rd l ((j : Int) - 1) < rd l j) ∧ rd l ((l.length : Int) - 1) < 12
instance scaleDec (l : List Int) : Decidable (Scale l) := by unfold Scale; infer_instance

theorem Scale.ge {l : List Int} (h : Scale l) : ∀ j : Nat, j < l.length → (j : Int) ≤ rd l j := by
  intro j
  induction j with
  | zero => intro _; have := h.2.1; simp; omega
  | succ j ih =>
    intro hj
    have := ih (by omega)
    have h2 := h.2.2.1 (j + 1) hj (by omega)
    rw [show (((j + 1 : Nat) : Int) - 1) = (j : Int) by omega] at h2
    omega
theorem Scale.lt {l : List Int} (h : Scale l) : ∀ d j : Nat, j + d + 1 = l.length → rd l j < 12 - d := by
  intro d
  induction d with
  | zero => intro j hj; have := h.2.2.2; rw [show ((l.length : Int) - 1) = (j : Int) by omega] at this; omega
  | succ d ih =>
    intro j hj
    have := ih (j + 1) (by omega)
    have h2 := h.2.2.1 (j + 1) (by omega) (by omega)
    rw [show (((j + 1 : Nat) : Int) - 1) = (j : Int) by omega] at h2
    omega
theorem Scale.range {l : List Int} (h : Scale l) (j : Nat) (hj : j < l.length) : 0 ≤ rd l j ∧ rd l j ≤ 11 := by
  have h1 := h.ge j hj
  have h2 := h.lt (l.length - 1 - j) j (by omega)
  omega
theorem Scale.len {l : List Int} (h : Scale l) : 5 ≤ l.length ∧ l.length ≤ 12 := by
  refine ⟨h.1, ?_⟩
  have h1 := h.1
  have h2 := h.ge (l.length - 1) (by omega)
  have h3 := h.range (l.length - 1) (by omega)
  omega

theorem rises_l0 (l : List Int) (hl : l.length ≤ 1048576) (lo hi : Int) (d : Nat) : ∀ (k i : Nat), l.length = i + d → d < k →
    ∃ r, spec_l00Rises.l0 k l lo hi i = some r ∧ (r = true ↔ ∀ j : Nat, i ≤ j → j < l.length → (lo ≤ rd l j ∧ rd l j ≤ hi) ∧ (0 < j → rd l ((j : Int) - 1) < rd l j)) := by
  induction d with
  | zero =>
    intro k i hd hk
    obtain ⟨k, rfl⟩ : ∃ m, k = m + 1 := ⟨k - 1, by omega⟩
    exact ⟨true, by simp only [spec_l00Rises.l0]; rw [if_neg (by omega)], by simp; intro j h1 h2; omega⟩
  | succ d ih =>
    intro k i hd hk
    obtain ⟨k, rfl⟩ : ∃ m, k = m + 1 := ⟨k - 1, by omega⟩
    simp only [spec_l00Rises.l0]
    rw [if_pos (by omega), if_pos (by omega), l00In_eq, Option.bind_some, wr (n := (i : Int) + 1) (by omega), wr (n := (i : Int) - 1) (by omega), show ((i : Int) + 1) = ((i + 1 : Nat) : Int) by omega]
    obtain ⟨r, hr, hiff⟩ := ih k (i + 1) (by omega) (by omega)
    rw [hr]
    by_cases hc : lo ≤ rd l i ∧ rd l i ≤ hi
    · rw [if_pos (decide_eq_true hc)]
      by_cases h0 : i = 0
      · refine ⟨r, by rw [if_neg (by omega)], ?_⟩
        rw [hiff]
        constructor
        · intro h j h1 h2
          by_cases e : j = i
          · subst e; exact ⟨hc, fun h => by omega⟩
          · exact h j (by omega) h2
        · intro h j h1 h2; exact h j (by omega) h2
      · rw [if_pos (by omega), if_pos (by omega), if_pos (by omega)]
        by_cases hr2 : rd l ((i : Int) - 1) < rd l i
        · refine ⟨r, by rw [if_neg (by omega)], ?_⟩
          rw [hiff]
          constructor
          · intro h j h1 h2
            by_cases e : j = i
            · subst e; exact ⟨hc, fun _ => hr2⟩
            · exact h j (by omega) h2
          · intro h j h1 h2; exact h j (by omega) h2
        · refine ⟨false, by rw [if_pos (by omega)], ?_⟩
          simp only [Bool.false_eq_true, false_iff]
          intro h; exact hr2 ((h i (by omega) (by omega)).2 (by omega))
    · refine ⟨false, by rw [if_neg (by simp; omega)], ?_⟩
      simp only [Bool.false_eq_true, false_iff]
      intro h; exact hc (h i (by omega) (by omega)).1

theorem increasing_l0 (l : List Int) (hl : l.length ≤ 1048576) (d : Nat) : ∀ (k i : Nat), 0 < i → l.length ≤ i + d → d < k → i ≤ 1048577 →
    ∃ r, impl_increasing.l0 k l i = some r ∧ (r = true ↔ ∀ j : Nat, i ≤ j → j < l.length → rd l ((j : Int) - 1) < rd l j) := by
  induction d with
  | zero =>
    intro k i hi hd hk hb
    obtain ⟨k, rfl⟩ : ∃ m, k = m + 1 := ⟨k - 1, by omega⟩
    exact ⟨true, by simp only [impl_increasing.l0]; rw [if_neg (by omega)], by simp; intro j h1 h2; omega⟩
  | succ d ih =>
    intro k i hi hd hk hb
    obtain ⟨k, rfl⟩ : ∃ m, k = m + 1 := ⟨k - 1, by omega⟩
    simp only [impl_increasing.l0]
    by_cases hlt : i < l.length
    · rw [if_pos (by omega), if_pos (by omega), wr (n := (i : Int) + 1) (by omega), wr (n := (i : Int) - 1) (by omega), show ((i : Int) + 1) = ((i + 1 : Nat) : Int) by omega, if_pos (by omega), if_pos (by omega)]
      obtain ⟨r, hr, hiff⟩ := ih k (i + 1) (by omega) (by omega) (by omega) (by omega)
      rw [hr]
      by_cases hr2 : rd l ((i : Int) - 1) < rd l i
      · refine ⟨r, by rw [if_neg (by omega)], ?_⟩
        rw [hiff]
        constructor
        · intro h j h1 h2
          by_cases e : j = i
          · subst e; exact hr2
          · exact h j (by omega) h2
        · intro h j h1 h2; exact h j (by omega) h2
      · refine ⟨false, by rw [if_pos (by omega)], ?_⟩
        simp only [Bool.false_eq_true, false_iff]
        intro h; exact hr2 (h i (by omega) hlt)
    · exact ⟨true, by rw [if_neg (by omega)], by simp; intro j h1 h2; omega⟩

theorem l03Scale_eq (k : Nat) (l : List Int) (hl : l.length ≤ 1048576) (hk : l.length < k) : spec_l03Scale.f k l = some (decide (Scale l)) := by
  unfold spec_l03Scale.f spec_l00Rises.f
  by_cases h5 : (l.length : Int) ≥ 5
  · obtain ⟨r, hr, hiff⟩ := rises_l0 l hl 0 11 l.length k 0 (by omega) hk
    simp only [Int.natCast_zero] at hr
    rw [if_pos h5, hr, Option.bind_some]
    by_cases h : r = true
    · rw [if_pos h, if_pos (by omega)]
      have hh := hiff.1 h
      congr 1; rw [Bool.eq_iff_iff, beq_iff_eq, decide_eq_true_iff]
      constructor
      · intro e
        refine ⟨by omega, e, fun j h2 h1 => (hh j (by omega) h2).2 h1, ?_⟩
        have := (hh (l.length - 1) (by omega) (by omega)).1.2
        rw [show ((l.length - 1 : Nat) : Int) = (l.length : Int) - 1 by omega] at this
        omega
      · intro e; exact e.2.1
    · rw [if_neg h]; congr 1; symm; rw [decide_eq_false_iff_not]
      intro e
      exact h (hiff.2 fun j _ h2 => ⟨e.range j h2, fun h1 => e.2.2.1 j h2 h1⟩)
  · rw [if_neg h5]; congr 1; symm; rw [decide_eq_false_iff_not]; intro e; exact h5 (by have := e.1; omega)

theorem ValidScale_eq (k : Nat) (l : List Int) (hl : l.length ≤ 1048576) (hk : l.length < k) : impl_ValidScale.f k l = some (decide (Scale l)) := by
  unfold impl_ValidScale.f impl_increasing.f
  by_cases h5 : (l.length : Int) ≥ 5
  · rw [if_pos h5, if_pos (by omega)]
    by_cases h0 : rd l 0 = 0
    · rw [if_pos h0]
      obtain ⟨r, hr, hiff⟩ := increasing_l0 l hl (l.length - 1) k 1 (by omega) (by omega) (by omega) (by omega)
      rw [show ((1 : Int)) = ((1 : Nat) : Int) by rfl, hr, Option.bind_some, show (((1 : Nat)) : Int) = 1 by rfl]
      by_cases h : r = true
      · rw [if_pos h, wr (n := (l.length : Int) - 1) (by omega), if_pos (by omega), if_pos (by omega)]
        congr 1; rw [Bool.eq_iff_iff, decide_eq_true_iff, decide_eq_true_iff]
        have hh := hiff.1 h
        constructor
        · intro e; exact ⟨by omega, h0, fun j h2 h1 => hh j (by omega) h2, e⟩
        · intro e; exact e.2.2.2
      · rw [if_neg h]; congr 1; symm; rw [decide_eq_false_iff_not]
        intro e; exact h (hiff.2 fun j h1 h2 => e.2.2.1 j h2 (by omega))
    · rw [if_neg h0]; congr 1; symm; rw [decide_eq_false_iff_not]; intro e; exact h0 e.2.1
  · rw [if_neg h5]; congr 1; symm; rw [decide_eq_false_iff_not]; intro e; exact h5 (by have := e.1; omega)

theorem set_take_step (l m : List Int) (i : Nat) (hi : i < l.length) (hm : m = l.take i ++ List.replicate (l.length - i) 0) :
    m.set i (rd l i) = l.take (i + 1) ++ List.replicate (l.length - (i + 1)) 0 := by
  subst hm
  have e : rd l i = l[i] := by unfold rd; simp [List.getD_eq_getElem?_getD, hi]
  have h1 : (l.take i).length = i := by simp; omega
  have : l.length - i = (l.length - (i + 1)) + 1 := by omega
  rw [e, List.take_succ_eq_append_getElem hi, this, List.replicate_succ, List.set_append_right _ _ (by omega), h1, Nat.sub_self, List.set_cons_zero, List.append_assoc]
  rfl
theorem toInts_l0 (l : List Int) (hl : l.length ≤ 1048576) (d : Nat) : ∀ (k i : Nat) (m : List Int), l.length = i + d → d < k →
    m = l.take i ++ List.replicate (l.length - i) 0 → laws_toInt64S.l0 k l m i = some l := by
  induction d with
  | zero =>
    intro k i m hd hk hm
    obtain ⟨k, rfl⟩ : ∃ m, k = m + 1 := ⟨k - 1, by omega⟩
    simp only [laws_toInt64S.l0]; rw [if_neg (by omega), hm, show l.length - i = 0 by omega, List.take_of_length_le (by omega)]; simp
  | succ d ih =>
    intro k i m hd hk hm
    obtain ⟨k, rfl⟩ : ∃ m, k = m + 1 := ⟨k - 1, by omega⟩
    have hml : m.length = l.length := by subst hm; simp; omega
    simp only [laws_toInt64S.l0]
    rw [if_pos (by omega), if_pos (by omega), if_pos (by omega), wr (n := (i : Int) + 1) (by omega), show ((i : Int) + 1) = ((i + 1 : Nat) : Int) by omega]
    apply ih k (i + 1) _ (by omega) (by omega)
    rw [Int.toNat_natCast]
    exact set_take_step l m i (by omega) hm
theorem toInts_eq (k : Nat) (l : List Int) (hl : l.length ≤ 1048576) (hk : l.length < k) : laws_toInt64S.f k l = some l := by
  unfold laws_toInt64S.f
  rw [if_pos (by omega), if_pos (by omega)]
  exact toInts_l0 l hl l.length k 0 _ (by omega) hk (by simp)

theorem eqInts_l0 (a b : List Int) (hl : a.length ≤ 1048576) (he : a.length = b.length) (d : Nat) : ∀ (k i : Nat), a.length = i + d → d < k →
    ∃ r, laws_eqInt64S.l0 k a b i = some r ∧ (r = true ↔ ∀ j : Nat, i ≤ j → j < a.length → rd a j = rd b j) := by
  induction d with
  | zero =>
    intro k i hd hk
    obtain ⟨k, rfl⟩ : ∃ m, k = m + 1 := ⟨k - 1, by omega⟩
    exact ⟨true, by simp only [laws_eqInt64S.l0]; rw [if_neg (by omega)], by simp; intro j h1 h2; omega⟩
  | succ d ih =>
    intro k i hd hk
    obtain ⟨k, rfl⟩ : ∃ m, k = m + 1 := ⟨k - 1, by omega⟩
    simp only [laws_eqInt64S.l0]
    rw [if_pos (by omega), if_pos (by omega), if_pos (by omega), wr (n := (i : Int) + 1) (by omega), show ((i : Int) + 1) = ((i + 1 : Nat) : Int) by omega]
    obtain ⟨r, hr, hiff⟩ := ih k (i + 1) (by omega) (by omega)
    by_cases hc : rd a i = rd b i
    · refine ⟨r, by rw [if_pos hc, hr], ?_⟩
      rw [hiff]
      constructor
      · intro h j h1 h2
        by_cases e : j = i
        · subst e; exact hc
        · exact h j (by omega) h2
      · intro h j h1 h2; exact h j (by omega) h2
    · exact ⟨false, by rw [if_neg hc], by simp; exact ⟨i, by omega, by omega, hc⟩⟩
theorem rd_nat (l : List Int) (j : Nat) : rd l j = l.getD j 0 := rfl
theorem rd_lt (l : List Int) (j : Nat) (h : j < l.length) : rd l j = l[j] := by rw [rd_nat]; simp [List.getD_eq_getElem?_getD, h]
theorem eqInts_eq (k : Nat) (a b : List Int) (hl : a.length ≤ 1048576) (hk : a.length < k) : laws_eqInt64S.f k a b = some (decide (a = b)) := by
  unfold laws_eqInt64S.f
  by_cases h : (a.length : Int) = (b.length : Int)
  · rw [if_pos h]
    obtain ⟨r, hr, hiff⟩ := eqInts_l0 a b hl (by omega) a.length k 0 (by omega) hk
    rw [show ((0 : Int)) = ((0 : Nat) : Int) by rfl, hr]; congr 1; rw [Bool.eq_iff_iff, hiff, decide_eq_true_iff]
    constructor
    · intro hh
      apply List.ext_getElem (by omega)
      intro j h1 h2
      have := hh j (by omega) h1
      rwa [rd_lt a j h1, rd_lt b j h2] at this
    · rintro rfl j _ _; rfl
  · rw [if_neg h]; congr 1; symm; rw [decide_eq_false_iff_not]; rintro rfl; exact h rfl
theorem eqInts_self (k : Nat) (a : List Int) (hl : a.length ≤ 1048576) (hk : a.length < k) : laws_eqInt64S.f k a a = some true := by
  rw [eqInts_eq k a a hl hk]; simp

theorem within_eq (a b c : Int) : impl_within.f a b c = some (decide (b ≤ a ∧ a ≤ c)) := by
  unfold impl_within.f
  by_cases h : a ≥ b <;> simp [h]

theorem at_l0 (l : List Int) (t : Int) (hl : l.length ≤ 1048576) (d : Nat) : ∀ (k i : Nat), l.length = i + d → d < k →
    ∃ r, spec_l03At.l0 k l t i = some r ∧ slices_Index_int64_int64.l0 k l t l.length i = some r := by
  induction d with
  | zero =>
    intro k i hd hk
    obtain ⟨k, rfl⟩ : ∃ m, k = m + 1 := ⟨k - 1, by omega⟩
    simp only [spec_l03At.l0, slices_Index_int64_int64.l0]
    have c1 : ¬ (i : Int) < l.length := by omega
    simp only [if_neg c1]
    exact ⟨_, rfl, rfl⟩
  | succ d ih =>
    intro k i hd hk
    obtain ⟨k, rfl⟩ : ∃ m, k = m + 1 := ⟨k - 1, by omega⟩
    obtain ⟨r, h1, h2⟩ := ih k (i + 1) (by omega) (by omega)
    simp only [spec_l03At.l0, slices_Index_int64_int64.l0]
    have c0 : (0 : Int) ≤ i := by omega
    have c1 : (i : Int) < l.length := by omega
    simp only [if_pos c0, if_pos c1]
    rw [wr (n := (i : Int) + 1) (by omega), show ((i : Int) + 1) = ((i + 1 : Nat) : Int) by omega, h1, h2]
    by_cases e : rd l i = t
    · rw [if_pos e, if_pos e.symm]; exact ⟨_, rfl, rfl⟩
    · rw [if_neg e, if_neg (fun x => e x.symm)]; exact ⟨_, rfl, rfl⟩
theorem same (k : Nat) (l : List Int) (a : Int) (hl : l.length ≤ 1048576) (hk : l.length < k) : ∃ r, spec_DegreeOf.f k l a = some r ∧ impl_DegreeOf.f k l a = some r := by
  unfold spec_DegreeOf.f impl_DegreeOf.f spec_l03Floor.f impl_octaveOf.f spec_l03Tone.f impl_ToneOf.f spec_l03Pitch.f impl_pitchOk.f spec_l03At.f slices_Index_int64_int64.f
  rw [l03Scale_eq k l hl (by omega), ValidScale_eq k l hl (by omega), l00In_eq, within_eq]
  simp only [Option.bind_some]
  by_cases hs : Scale l
  · by_cases ha : -12 ≤ a ∧ a ≤ 23
    · obtain ⟨r, h1, h2⟩ := at_l0 l (Int.tmod (wrap64 ((Int.tmod a 12) + 12)) 12) hl l.length k 0 (by omega) (by omega)
      simp only [Int.natCast_zero] at h1 h2
      simp only [decide_eq_true hs, decide_eq_true ha, if_true, h1, h2, Option.bind_some]
      by_cases hr : r < 0
      · exact ⟨(0, 3), by rw [if_pos hr], by rw [if_pos hr]⟩
      · simp only [if_neg hr]; exact ⟨_, rfl, rfl⟩
    · exact ⟨(0, 2), by simp [hs, ha], by simp [hs, ha]⟩
  · exact ⟨(0, 1), by simp [hs], by simp [hs]⟩
theorem FnExactDegreeOf : laws_FnExactDegreeOf.Pure := by
  intro l a _ _ _ _
  refine ⟨l.length + 2, ?_⟩
  unfold laws_FnExactDegreeOf.f
  by_cases h : (l.length : Int) > 1048576
  · rw [if_pos h]
  · obtain ⟨r, h1, h2⟩ := same (l.length + 2) l a (by omega) (by omega)
    rw [if_neg h, toInts_eq _ l (by omega) (by omega)]
    simp only [Option.bind_some, h1, h2, if_true, laws_FnExactDegreeOf.j0, bne_self_eq_false, Bool.false_eq_true, if_false]
    rw [toInts_eq _ l (by omega) (by omega)]
    simp only [Option.bind_some]
    rw [eqInts_self _ l (by omega) (by omega)]
    simp


end Go.Proofs.Ytnmpkijibhidaaa.Pure
namespace Go.Proofs.Ytnmpkijibhidaaa.PrintWords
/-- The words' lemma, under the name by which the printed row asks for it. -/
abbrev sized_ints := @Go.Proofs.YtnmpkijibhidaaaW.PrintWords.sized_ints
end Go.Proofs.Ytnmpkijibhidaaa.PrintWords
namespace Go.Proofs.Ytnmpkijibhidaaa.Pure

end Go.Proofs.Ytnmpkijibhidaaa.Pure
