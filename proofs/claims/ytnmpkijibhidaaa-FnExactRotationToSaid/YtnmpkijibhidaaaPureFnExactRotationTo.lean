/- Proved: the plain statement of the law FnExactRotationTo: the program's function and the reference's give the same answer. Conditions: none beyond the statement's own. -/
import Derived.Test.YtnmpkijibhidaaaPFnExactRotationTox4
import Derived.Test.YtnmpkijibhidaaaWSized
namespace Go.Proofs.Ytnmpkijibhidaaa.Pure
open Go.RowKit Go.Proofs.Ytnmpkijibhidaaa.PFnExactRotationTo Go.Proofs.YtnmpkijibhidaaaW.PrintWords Go.Proofs.YtnmpkijibhidaaaW.PrintLast
set_option linter.unusedVariables false
set_option linter.unusedSimpArgs false

theorem wr {n : Int} (h : -9223372036854775808 ≤ n ∧ n ≤ 9223372036854775807) : wrap64 n = n := by unfold wrap64; omega

theorem l00In_eq (a b c : Int) : spec_l00In.f a b c = some (decide (b ≤ a ∧ a ≤ c)) := by
  unfold spec_l00In.f
  by_cases h : a ≥ b <;> simp [h]

/-- A list that is a scale. -/
def Scale (l : List Int) : Prop := 5 ≤ l.length ∧ rd l 0 = 0 ∧ (∀ j : Nat, j < l.length → 0 < j → rd l ((j : Int) - 1) < rd l j) ∧ rd l ((l.length : Int) - 1) < 12
instance scaleDec (l : List Int) : Decidable (Scale l) := by unfold Scale; infer_instance

theorem Scale.ge {l : List Int} (h : Scale l) : ∀ j : Nat, j < l.length → (j : Int) ≤ rd l j := by
  intro j
  induction j with
  | zero => intro _; have := h.2.1; simp; omega
  | succ j ih =>
    intro hj
    have := ih (by omega)
    have h2 := h.2.2.1 (j + 1) hj (by omega)
    rw [show (((j + 1 : Nat) : Int) - 1) = (j : Int) by omega] at h2
    omega
theorem Scale.lt {l : List Int} (h : Scale l) : ∀ d j : Nat, j + d + 1 = l.length → rd l j < 12 - d := by
  intro d
  induction d with
  | zero => intro j hj; have := h.2.2.2; rw [show ((l.length : Int) - 1) = (j : Int) by omega] at this; omega
  | succ d ih =>
    intro j hj
    have := ih (j + 1) (by omega)
    have h2 := h.2.2.1 (j + 1) (by omega) (by omega)
    rw [show (((j + 1 : Nat) : Int) - 1) = (j : Int) by omega] at h2
    omega
theorem Scale.range {l : List Int} (h : Scale l) (j : Nat) (hj : j < l.length) : 0 ≤ rd l j ∧ rd l j ≤ 11 := by
  have h1 := h.ge j hj
  have h2 := h.lt (l.length - 1 - j) j (by omega)
  omega
theorem Scale.len {l : List Int} (h : Scale l) : 5 ≤ l.length ∧ l.length ≤ 12 := by
  refine ⟨h.1, ?_⟩
  have h1 := h.1
  have h2 := h.ge (l.length - 1) (by omega)
  have h3 := h.range (l.length - 1) (by omega)
  omega

theorem rises_l0 (l : List Int) (hl : l.length ≤ 1048576) (lo hi : Int) (d : Nat) : ∀ (k i : Nat), l.length = i + d → d < k →
    ∃ r, spec_l00Rises.l0 k l lo hi i = some r ∧ (r = true ↔ ∀ j : Nat, i ≤ j → j < l.length → (lo ≤ rd l j ∧ rd l j ≤ hi) ∧ (0 < j → rd l ((j : Int) - 1) < rd l j)) := by
  induction d with
  | zero =>
    intro k i hd hk
    obtain ⟨k, rfl⟩ : ∃ m, k = m + 1 := ⟨k - 1, by omega⟩
    exact ⟨true, by simp only [spec_l00Rises.l0]; rw [if_neg (by omega)], by simp; intro j h1 h2; omega⟩
  | succ d ih =>
    intro k i hd hk
    obtain ⟨k, rfl⟩ : ∃ m, k = m + 1 := ⟨k - 1, by omega⟩
    simp only [spec_l00Rises.l0]
    rw [if_pos (by omega), if_pos (by omega), l00In_eq, Option.bind_some, wr (n := (i : Int) + 1) (by omega), wr (n := (i : Int) - 1) (by omega), show ((i : Int) + 1) = ((i + 1 : Nat) : Int) by omega]
    obtain ⟨r, hr, hiff⟩ := ih k (i + 1) (by omega) (by omega)
    rw [hr]
    by_cases hc : lo ≤ rd l i ∧ rd l i ≤ hi
    · rw [if_pos (decide_eq_true hc)]
      by_cases h0 : i = 0
      · refine ⟨r, by rw [if_neg (by omega)], ?_⟩
        rw [hiff]
        constructor
        · intro h j h1 h2
          by_cases e : j = i
          · subst e; exact ⟨hc, fun h => by omega⟩
          · exact h j (by omega) h2
        · intro h j h1 h2; exact h j (by omega) h2
      · rw [if_pos (by omega), if_pos (by omega), if_pos (by omega)]
        by_cases hr2 : rd l ((i : Int) - 1) < rd l i
        · refine ⟨r, by rw [if_neg (by omega)], ?_⟩
          rw [hiff]
          constructor
          · intro h j h1 h2
            by_cases e : j = i
            · subst e; exact ⟨hc, fun _ => hr2⟩
            · exact h j (by omega) h2
          · intro h j h1 h2; exact h j (by omega) h2
        · refine ⟨false, by rw [if_pos (by omega)], ?_⟩
          simp only [Bool.false_eq_true, false_iff]
          intro h; exact hr2 ((h i (by omega) (by omega)).2 (by omega))
    · refine ⟨false, by rw [if_neg (by simp; omega)], ?_⟩
      simp only [Bool.false_eq_true, false_iff]
      intro h; exact hc (h i (by omega) (by omega)).1

theorem increasing_l0 (l : List Int) (hl : l.length ≤ 1048576) (d : Nat) : ∀ (k i : Nat), 0 < i → l.length ≤ i + d → d < k → i ≤ 1048577 →
    ∃ r, impl_increasing.l0 k l i = some r ∧ (r = true ↔ ∀ j : Nat, i ≤ j → j < l.length → rd l ((j : Int) - 1) < rd l j) := by
  induction d with
  | zero =>
    intro k i hi hd hk hb
    obtain ⟨k, rfl⟩ : ∃ m, k = m + 1 := ⟨k - 1, by omega⟩
    exact ⟨true, by simp only [impl_increasing.l0]; rw [if_neg (by omega)], by simp; intro j h1 h2; omega⟩
  | succ d ih =>
    intro k i hi hd hk hb
    obtain ⟨k, rfl⟩ : ∃ m, k = m + 1 := ⟨k - 1, by omega⟩
    simp only [impl_increasing.l0]
    by_cases hlt : i < l.length
    · rw [if_pos (by omega), if_pos (by omega), wr (n := (i : Int) + 1) (by omega), wr (n := (i : Int) - 1) (by omega), show ((i : Int) + 1) = ((i + 1 : Nat) : Int) by omega, if_pos (by omega), if_pos (by omega)]
      obtain ⟨r, hr, hiff⟩ := ih k (i + 1) (by omega) (by omega) (by omega) (by omega)
      rw [hr]
      by_cases hr2 : rd l ((i : Int) - 1) < rd l i
      · refine ⟨r, by rw [if_neg (by omega)], ?_⟩
        rw [hiff]
        constructor
        · intro h j h1 h2
          by_cases e : j = i
          · subst e; exact hr2
          · exact h j (by omega) h2
        · intro h j h1 h2; exact h j (by omega) h2
      · refine ⟨false, by rw [if_pos (by omega)], ?_⟩
        simp only [Bool.false_eq_true, false_iff]
        intro h; exact hr2 (h i (by omega) hlt)
    · exact ⟨true, by rw [if_neg (by omega)], by simp; intro j h1 h2; omega⟩

theorem l03Scale_eq (k : Nat) (l : List Int) (hl : l.length ≤ 1048576) (hk : l.length < k) : spec_l03Scale.f k l = some (decide (Scale l)) := by
  unfold spec_l03Scale.f spec_l00Rises.f
  by_cases h5 : (l.length : Int) ≥ 5
  · obtain ⟨r, hr, hiff⟩ := rises_l0 l hl 0 11 l.length k 0 (by omega) hk
    simp only [Int.natCast_zero] at hr
    rw [if_pos h5, hr, Option.bind_some]
    by_cases h : r = true
    · rw [if_pos h, if_pos (by omega)]
      have hh := hiff.1 h
      congr 1; rw [Bool.eq_iff_iff, beq_iff_eq, decide_eq_true_iff]
      constructor
      · intro e
        refine ⟨by omega, e, fun j h2 h1 => (hh j (by omega) h2).2 h1, ?_⟩
        have := (hh (l.length - 1) (by omega) (by omega)).1.2
        rw [show ((l.length - 1 : Nat) : Int) = (l.length : Int) - 1 by omega] at this
        omega
      · intro e; exact e.2.1
    · rw [if_neg h]; congr 1; symm; rw [decide_eq_false_iff_not]
      intro e
      exact h (hiff.2 fun j _ h2 => ⟨e.range j h2, fun h1 => e.2.2.1 j h2 h1⟩)
  · rw [if_neg h5]; congr 1; symm; rw [decide_eq_false_iff_not]; intro e; exact h5 (by have := e.1; omega)

theorem ValidScale_eq (k : Nat) (l : List Int) (hl : l.length ≤ 1048576) (hk : l.length < k) : impl_ValidScale.f k l = some (decide (Scale l)) := by
  unfold impl_ValidScale.f impl_increasing.f
  by_cases h5 : (l.length : Int) ≥ 5
  · rw [if_pos h5, if_pos (by omega)]
    by_cases h0 : rd l 0 = 0
    · rw [if_pos h0]
      obtain ⟨r, hr, hiff⟩ := increasing_l0 l hl (l.length - 1) k 1 (by omega) (by omega) (by omega) (by omega)
      rw [show ((1 : Int)) = ((1 : Nat) : Int) by rfl, hr, Option.bind_some, show (((1 : Nat)) : Int) = 1 by rfl]
      by_cases h : r = true
      · rw [if_pos h, wr (n := (l.length : Int) - 1) (by omega), if_pos (by omega), if_pos (by omega)]
        congr 1; rw [Bool.eq_iff_iff, decide_eq_true_iff, decide_eq_true_iff]
        have hh := hiff.1 h
        constructor
        · intro e; exact ⟨by omega, h0, fun j h2 h1 => hh j (by omega) h2, e⟩
        · intro e; exact e.2.2.2
      · rw [if_neg h]; congr 1; symm; rw [decide_eq_false_iff_not]
        intro e; exact h (hiff.2 fun j h1 h2 => e.2.2.1 j h2 (by omega))
    · rw [if_neg h0]; congr 1; symm; rw [decide_eq_false_iff_not]; intro e; exact h0 e.2.1
  · rw [if_neg h5]; congr 1; symm; rw [decide_eq_false_iff_not]; intro e; exact h5 (by have := e.1; omega)

theorem set_take_step (l m : List Int) (i : Nat) (hi : i < l.length) (hm : m = l.take i ++ List.replicate (l.length - i) 0) :
    m.set i (rd l i) = l.take (i + 1) ++ List.replicate (l.length - (i + 1)) 0 := by
  subst hm
  have e : rd l i = l[i] := by unfold rd; simp [List.getD_eq_getElem?_getD, hi]
  have h1 : (l.take i).length = i := by simp; omega
  have : l.length - i = (l.length - (i + 1)) + 1 := by omega
  rw [e, List.take_succ_eq_append_getElem hi, this, List.replicate_succ, List.set_append_right _ _ (by omega), h1, Nat.sub_self, List.set_cons_zero, List.append_assoc]
  rfl
theorem toInts_l0 (l : List Int) (hl : l.length ≤ 1048576) (d : Nat) : ∀ (k i : Nat) (m : List Int), l.length = i + d → d < k →
    m = l.take i ++ List.replicate (l.length - i) 0 → laws_toInt64S.l0 k l m i = some l := by
  induction d with
  | zero =>
    intro k i m hd hk hm
    obtain ⟨k, rfl⟩ : ∃ m, k = m + 1 := ⟨k - 1, by omega⟩
    simp only [laws_toInt64S.l0]; rw [if_neg (by omega), hm, show l.length - i = 0 by omega, List.take_of_length_le (by omega)]; simp
  | succ d ih =>
    intro k i m hd hk hm
    obtain ⟨k, rfl⟩ : ∃ m, k = m + 1 := ⟨k - 1, by omega⟩
    have hml : m.length = l.length := by subst hm; simp; omega
    simp only [laws_toInt64S.l0]
    rw [if_pos (by omega), if_pos (by omega), if_pos (by omega), wr (n := (i : Int) + 1) (by omega), show ((i : Int) + 1) = ((i + 1 : Nat) : Int) by omega]
    apply ih k (i + 1) _ (by omega) (by omega)
    rw [Int.toNat_natCast]
    exact set_take_step l m i (by omega) hm
theorem toInts_eq (k : Nat) (l : List Int) (hl : l.length ≤ 1048576) (hk : l.length < k) : laws_toInt64S.f k l = some l := by
  unfold laws_toInt64S.f
  rw [if_pos (by omega), if_pos (by omega)]
  exact toInts_l0 l hl l.length k 0 _ (by omega) hk (by simp)

theorem eqInts_l0 (a b : List Int) (hl : a.length ≤ 1048576) (he : a.length = b.length) (d : Nat) : ∀ (k i : Nat), a.length = i + d → d < k →
    ∃ r, laws_eqInt64S.l0 k a b i = some r ∧ (r = true ↔ ∀ j : Nat, i ≤ j → j < a.length → rd a j = rd b j) := by
  induction d with
  | zero =>
    intro k i hd hk
    obtain ⟨k, rfl⟩ : ∃ m, k = m + 1 := ⟨k - 1, by omega⟩
    exact ⟨true, by simp only [laws_eqInt64S.l0]; rw [if_neg (by omega)], by simp; intro j h1 h2; omega⟩
  | succ d ih =>
    intro k i hd hk
    obtain ⟨k, rfl⟩ : ∃ m, k = m + 1 := ⟨k - 1, by omega⟩
    simp only [laws_eqInt64S.l0]
    rw [if_pos (by omega), if_pos (by omega), if_pos (by omega), wr (n := (i : Int) + 1) (by omega), show ((i : Int) + 1) = ((i + 1 : Nat) : Int) by omega]
    obtain ⟨r, hr, hiff⟩ := ih k (i + 1) (by omega) (by omega)
    by_cases hc : rd a i = rd b i
    · refine ⟨r, by rw [if_pos hc, hr], ?_⟩
      rw [hiff]
      constructor
      · intro h j h1 h2
        by_cases e : j = i
        · subst e; exact hc
        · exact h j (by omega) h2
      · intro h j h1 h2; exact h j (by omega) h2
    · exact ⟨false, by rw [if_neg hc], by simp; exact ⟨i, by omega, by omega, hc⟩⟩
theorem rd_nat (l : List Int) (j : Nat) : rd l j = l.getD j 0 := rfl
theorem rd_lt (l : List Int) (j : Nat) (h : j < l.length) : rd l j = l[j] := by rw [rd_nat]; simp [List.getD_eq_getElem?_getD, h]
theorem eqInts_eq (k : Nat) (a b : List Int) (hl : a.length ≤ 1048576) (hk : a.length < k) : laws_eqInt64S.f k a b = some (decide (a = b)) := by
  unfold laws_eqInt64S.f
  by_cases h : (a.length : Int) = (b.length : Int)
  · rw [if_pos h]
    obtain ⟨r, hr, hiff⟩ := eqInts_l0 a b hl (by omega) a.length k 0 (by omega) hk
    rw [show ((0 : Int)) = ((0 : Nat) : Int) by rfl, hr]; congr 1; rw [Bool.eq_iff_iff, hiff, decide_eq_true_iff]
    constructor
    · intro hh
      apply List.ext_getElem (by omega)
      intro j h1 h2
      have := hh j (by omega) h1
      rwa [rd_lt a j h1, rd_lt b j h2] at this
    · rintro rfl j _ _; rfl
  · rw [if_neg h]; congr 1; symm; rw [decide_eq_false_iff_not]; rintro rfl; exact h rfl
theorem eqInts_self (k : Nat) (a : List Int) (hl : a.length ≤ 1048576) (hk : a.length < k) : laws_eqInt64S.f k a a = some true := by
  rw [eqInts_eq k a a hl hk]; simp

theorem fill_set (f : Nat → Int) (n i : Nat) (h : i < n) : ((List.range i).map f ++ List.replicate (n - i) 0).set i (f i) = (List.range (i + 1)).map f ++ List.replicate (n - (i + 1)) 0 := by
  have h1 : ((List.range i).map f).length = i := by simp
  have : n - i = (n - (i + 1)) + 1 := by omega
  rw [this, List.replicate_succ, List.set_append_right _ _ (by omega), h1, Nat.sub_self, List.set_cons_zero, List.range_succ, List.map_append, List.append_assoc]
  rfl
theorem fill_len (f : Nat → Int) (n i : Nat) (h : i ≤ n) : ((List.range i).map f ++ List.replicate (n - i) 0).length = n := by simp; omega
theorem fill_end (f : Nat → Int) (n : Nat) : (List.range n).map f ++ List.replicate (n - n) 0 = (List.range n).map f := by simp
theorem fill_snoc (f : Nat → Int) (i : Nat) : (List.range i).map f ++ [f i] = (List.range (i + 1)).map f := by rw [List.range_succ, List.map_append]; rfl

def rotF (l : List Int) (a : Int) (j : Nat) : Int := Int.tmod (wrap64 ((Int.tmod (wrap64 ((rd l (Int.tmod (wrap64 (a + j)) l.length)) - (rd l a))) 12) + 12)) 12
theorem rot_in (n : Nat) (a : Int) (j : Nat) (hn : n ≤ 12) (ha : 0 ≤ a ∧ a < n) (hj : j < n) : 0 ≤ Int.tmod (wrap64 (a + j)) n ∧ Int.tmod (wrap64 (a + j)) n < n := by
  rw [wr (n := a + j) (by omega), Int.tmod_eq_emod_of_nonneg (by omega)]
  exact ⟨Int.emod_nonneg _ (by omega), Int.emod_lt_of_pos _ (by omega)⟩
theorem rotate_l0 (l : List Int) (hs : Scale l) (a : Int) (ha : 0 ≤ a ∧ a < l.length) (d : Nat) : ∀ (k i : Nat), l.length = i + d → d < k →
    spec_l03Rotate.l0 k l a ((List.range i).map (rotF l a)) l.length i = some ((List.range l.length).map (rotF l a)) := by
  have hn := hs.len
  induction d with
  | zero =>
    intro k i hd hk
    obtain ⟨k, rfl⟩ : ∃ m, k = m + 1 := ⟨k - 1, by omega⟩
    simp only [spec_l03Rotate.l0]
    rw [if_neg (by omega), show i = l.length by omega]
  | succ d ih =>
    intro k i hd hk
    obtain ⟨k, rfl⟩ : ∃ m, k = m + 1 := ⟨k - 1, by omega⟩
    have hl : ((List.range i).map (rotF l a)).length = i := by simp
    have hr := rot_in l.length a i hn.2 ha (by omega)
    simp only [spec_l03Rotate.l0]
    rw [if_pos (by omega), if_neg (by omega), if_pos hr.1, if_pos hr.2, if_pos ha.1, if_pos ha.2]
    unfold spec_l03Tone.f
    simp only [Option.bind_some]
    rw [if_pos (by omega), wr (n := (i : Int) + 1) (by omega), show ((i : Int) + 1) = ((i + 1 : Nat) : Int) by omega]
    rw [show Int.tmod (wrap64 ((Int.tmod (wrap64 ((rd l (Int.tmod (wrap64 (a + i)) l.length)) - (rd l a))) 12) + 12)) 12 = rotF l a i from rfl, fill_snoc]
    exact ih k (i + 1) (by omega) (by omega)
theorem rotated_l0 (l : List Int) (hs : Scale l) (a : Int) (ha : 0 ≤ a ∧ a < l.length) (d : Nat) : ∀ (k i : Nat), l.length = i + d → d < k →
    impl_rotated.l0 k l a ((List.range i).map (rotF l a) ++ List.replicate (l.length - i) 0) l.length i = some ((List.range l.length).map (rotF l a)) := by
  have hn := hs.len
  induction d with
  | zero =>
    intro k i hd hk
    obtain ⟨k, rfl⟩ : ∃ m, k = m + 1 := ⟨k - 1, by omega⟩
    simp only [impl_rotated.l0]
    rw [if_neg (by omega), show i = l.length by omega, fill_end]
  | succ d ih =>
    intro k i hd hk
    obtain ⟨k, rfl⟩ : ∃ m, k = m + 1 := ⟨k - 1, by omega⟩
    have hl := fill_len (rotF l a) l.length i (by omega)
    have hr := rot_in l.length a i hn.2 ha (by omega)
    simp only [impl_rotated.l0]
    rw [if_pos (by omega), if_neg (by omega), if_pos hr.1, if_pos hr.2, if_pos ha.1, if_pos ha.2]
    unfold impl_ToneOf.f
    simp only [Option.bind_some]
    rw [hl, if_pos (by omega), if_pos (by omega), wr (n := (i : Int) + 1) (by omega), show ((i : Int) + 1) = ((i + 1 : Nat) : Int) by omega, Int.toNat_natCast]
    rw [show Int.tmod (wrap64 ((Int.tmod (wrap64 ((rd l (Int.tmod (wrap64 (a + i)) l.length)) - (rd l a))) 12) + 12)) 12 = rotF l a i from rfl, fill_set _ _ _ (by omega)]
    exact ih k (i + 1) (by omega) (by omega)
theorem l03Rotate_eq (l : List Int) (hs : Scale l) (a : Int) (ha : 0 ≤ a ∧ a < l.length) (k : Nat) (hk : l.length < k) : spec_l03Rotate.f k l a = some ((List.range l.length).map (rotF l a)) := by
  have h1 := rotate_l0 l hs a ha l.length k 0 (by omega) hk
  simp only [Int.natCast_zero, List.range_zero, List.map_nil] at h1
  exact h1
theorem rotated_eq (l : List Int) (hs : Scale l) (a : Int) (ha : 0 ≤ a ∧ a < l.length) (k : Nat) (hk : l.length < k) : impl_rotated.f k l a = some ((List.range l.length).map (rotF l a)) := by
  have hn := hs.len
  have h2 := rotated_l0 l hs a ha l.length k 0 (by omega) hk
  simp only [Int.natCast_zero, List.range_zero, List.map_nil, Nat.sub_zero, List.nil_append] at h2
  unfold impl_rotated.f
  rw [if_pos (by omega), if_pos (by omega), Int.toNat_natCast, h2]

theorem sameInts_l0 (a b : List Int) (hl : a.length ≤ 1048576) (he : a.length = b.length) (d : Nat) : ∀ (i : Nat), a.length = i + d →
    ∃ r, ∀ k, d < k → spec_l00Same.l0 k a b i = some r ∧ slices_Equal_int64_int64.l0 k a b a.length i = some r := by
  induction d with
  | zero =>
    intro i hd
    refine ⟨true, fun k hk => ?_⟩
    obtain ⟨k, rfl⟩ : ∃ m, k = m + 1 := ⟨k - 1, by omega⟩
    simp only [spec_l00Same.l0, slices_Equal_int64_int64.l0]
    rw [if_neg (by omega), if_neg (by omega)]; exact ⟨rfl, rfl⟩
  | succ d ih =>
    intro i hd
    by_cases hc : rd a i = rd b i
    · obtain ⟨r, hr⟩ := ih (i + 1) (by omega)
      refine ⟨r, fun k hk => ?_⟩
      obtain ⟨k, rfl⟩ : ∃ m, k = m + 1 := ⟨k - 1, by omega⟩
      simp only [spec_l00Same.l0, slices_Equal_int64_int64.l0]
      rw [if_pos (by omega), if_pos (by omega), if_pos (by omega), if_pos hc, if_pos (by omega), if_pos (by omega), if_pos (by omega), if_pos (by omega), if_pos hc, wr (n := (i : Int) + 1) (by omega), show ((i : Int) + 1) = ((i + 1 : Nat) : Int) by omega]
      exact hr k (by omega)
    · refine ⟨false, fun k hk => ?_⟩
      obtain ⟨k, rfl⟩ : ∃ m, k = m + 1 := ⟨k - 1, by omega⟩
      simp only [spec_l00Same.l0, slices_Equal_int64_int64.l0]
      rw [if_pos (by omega), if_pos (by omega), if_pos (by omega), if_neg hc, if_pos (by omega), if_pos (by omega), if_pos (by omega), if_pos (by omega), if_neg hc]; exact ⟨rfl, rfl⟩
theorem sameInts (a b : List Int) (hl : a.length ≤ 1048576) : ∃ r, ∀ k, a.length < k → spec_l00Same.f k a b = some r ∧ slices_Equal_int64_int64.f k a b = some r := by
  unfold spec_l00Same.f slices_Equal_int64_int64.f
  by_cases he : (a.length : Int) = (b.length : Int)
  · obtain ⟨r, hr⟩ := sameInts_l0 a b hl (by omega) a.length 0 (by omega)
    exact ⟨r, fun k hk => by rw [if_pos he, if_pos he]; exact hr k hk⟩
  · exact ⟨false, fun k _ => by rw [if_neg he, if_neg he]; exact ⟨rfl, rfl⟩⟩

def RT (b : Int × Bool) : Int × Int := if b.2 = true then (b.1, 0) else (0, 3)
theorem rot_loop (l m : List Int) (hs : Scale l) (K : Nat) (hK : 12 < K) (d : Nat) : ∀ (i : Nat), l.length = i + d →
    ∃ b : Int × Bool, (∀ k, d + 13 < k → spec_RotationTo.l0 k l m i = some (RT b)) ∧ (∀ k, d < k → impl_least.l0 (fun n => impl_RotationTo_1.f K l m n) k ((l.length : Int) - 1) i = some b) := by
  have hn := hs.len
  induction d with
  | zero =>
    intro i hd
    refine ⟨(0, false), fun k hk => ?_, fun k hk => ?_⟩
    · obtain ⟨k, rfl⟩ : ∃ m, k = m + 1 := ⟨k - 1, by omega⟩
      simp only [spec_RotationTo.l0]
      rw [if_neg (by omega)]; rfl
    · obtain ⟨k, rfl⟩ : ∃ m, k = m + 1 := ⟨k - 1, by omega⟩
      simp only [impl_least.l0]
      rw [if_neg (by omega)]
  | succ d ih =>
    intro i hd
    obtain ⟨r, hr⟩ := sameInts ((List.range l.length).map (rotF l i)) m (by simp; omega)
    simp only [List.length_map, List.length_range] at hr
    have e1 : ∀ k, 12 < k → spec_l03Rotate.f k l i = some ((List.range l.length).map (rotF l i)) := fun k hk => l03Rotate_eq l hs i (by omega) k (by omega)
    have e2 : impl_RotationTo_1.f K l m i = some r := by
      unfold impl_RotationTo_1.f
      rw [rotated_eq l hs i (by omega) K (by omega), Option.bind_some]
      exact (hr K (by omega)).2
    cases r with
    | true =>
      refine ⟨((i : Int), true), fun k hk => ?_, fun k hk => ?_⟩
      · obtain ⟨k, rfl⟩ : ∃ m, k = m + 1 := ⟨k - 1, by omega⟩
        simp only [spec_RotationTo.l0]
        rw [if_pos (by omega), e1 k (by omega), Option.bind_some, (hr k (by omega)).1, Option.bind_some, if_pos rfl]; rfl
      · obtain ⟨k, rfl⟩ : ∃ m, k = m + 1 := ⟨k - 1, by omega⟩
        simp only [impl_least.l0]
        rw [if_pos (by omega), e2, Option.bind_some, if_pos rfl]
    | false =>
      obtain ⟨b, hb1, hb2⟩ := ih (i + 1) (by omega)
      refine ⟨b, fun k hk => ?_, fun k hk => ?_⟩
      · obtain ⟨k, rfl⟩ : ∃ m, k = m + 1 := ⟨k - 1, by omega⟩
        simp only [spec_RotationTo.l0]
        rw [if_pos (by omega), e1 k (by omega), Option.bind_some, (hr k (by omega)).1, Option.bind_some, if_neg (by decide), wr (n := (i : Int) + 1) (by omega), show ((i : Int) + 1) = ((i + 1 : Nat) : Int) by omega]
        exact hb1 k (by omega)
      · obtain ⟨k, rfl⟩ : ∃ m, k = m + 1 := ⟨k - 1, by omega⟩
        simp only [impl_least.l0]
        rw [if_pos (by omega), e2, Option.bind_some, if_neg (by decide), wr (n := (i : Int) + 1) (by omega), show ((i : Int) + 1) = ((i + 1 : Nat) : Int) by omega]
        exact hb2 k (by omega)
theorem same (l m : List Int) (hl : l.length ≤ 1048576) (hm : m.length ≤ 1048576) : ∃ r : Int × Int, ∀ k, l.length + m.length + 40 < k → spec_RotationTo.f k l m = some r ∧ impl_RotationTo.f k l m = some r := by
  by_cases hs : Scale l
  · have hn := hs.len
    by_cases ht : Scale m
    · obtain ⟨b, hb1, _⟩ := rot_loop l m hs 40 (by omega) l.length 0 (by omega)
      refine ⟨RT b, fun k hk => ?_⟩
      obtain ⟨b', hb1', hb2'⟩ := rot_loop l m hs k (by omega) l.length 0 (by omega)
      have eb : RT b' = RT b := by
        have h1 := hb1 (l.length + 20) (by omega)
        have h2 := hb1' (l.length + 20) (by omega)
        rw [h1] at h2; exact (Option.some.inj h2).symm
      obtain ⟨k, rfl⟩ : ∃ m, k = m + 1 := ⟨k - 1, by omega⟩
      unfold spec_RotationTo.f impl_RotationTo.f
      rw [l03Scale_eq _ l hl (by omega), ValidScale_eq _ l hl (by omega), l03Scale_eq _ m hm (by omega), ValidScale_eq _ m hm (by omega), wr (n := (l.length : Int) - 1) (by omega)]
      simp only [Option.bind_some, decide_eq_true hs, decide_eq_true ht, if_true, Bool.not_true, spec_RotationTo.j0, Bool.false_eq_true, if_false]
      simp only [Int.natCast_zero] at hb1 hb2'
      rw [hb1 k (by omega), hb2' (k + 1) (by omega), ← eb]
      refine ⟨rfl, ?_⟩
      simp only [Option.bind_some]
      unfold impl_orNotFound.f RT
      split <;> rfl
    · refine ⟨(0, 1), fun k hk => ?_⟩
      obtain ⟨k, rfl⟩ : ∃ m, k = m + 1 := ⟨k - 1, by omega⟩
      unfold spec_RotationTo.f impl_RotationTo.f
      rw [l03Scale_eq _ l hl (by omega), ValidScale_eq _ l hl (by omega), l03Scale_eq _ m hm (by omega), ValidScale_eq _ m hm (by omega)]
      simp [hs, ht, spec_RotationTo.j0]
  · refine ⟨(0, 1), fun k hk => ?_⟩
    obtain ⟨k, rfl⟩ : ∃ m, k = m + 1 := ⟨k - 1, by omega⟩
    unfold spec_RotationTo.f impl_RotationTo.f
    rw [l03Scale_eq _ l hl (by omega), ValidScale_eq _ l hl (by omega)]
    simp [hs, spec_RotationTo.j0]
theorem FnExactRotationTo : laws_FnExactRotationTo.Pure := by
  intro l m _ _ _ _ _ _
  by_cases h : (l.length : Int) > 1048576
  · exact ⟨0, by unfold laws_FnExactRotationTo.f; rw [if_pos h]⟩
  · by_cases h' : (m.length : Int) > 1048576
    · exact ⟨0, by unfold laws_FnExactRotationTo.f; rw [if_neg h, if_pos h']⟩
    · obtain ⟨r, hf⟩ := same l m (by omega) (by omega)
      refine ⟨l.length + m.length + 60, ?_⟩
      have tL : ∀ k, l.length < k → laws_toInt64S.f k l = some l := fun k hk => toInts_eq k l (by omega) hk
      have tM : ∀ k, m.length < k → laws_toInt64S.f k m = some m := fun k hk => toInts_eq k m (by omega) hk
      have eL : ∀ k, l.length < k → laws_eqInt64S.f k l l = some true := fun k hk => eqInts_self k l (by omega) hk
      have eM : ∀ k, m.length < k → laws_eqInt64S.f k m m = some true := fun k hk => eqInts_self k m (by omega) hk
      unfold laws_FnExactRotationTo.f
      rw [if_neg h, if_neg h', tL _ (by omega)]; simp only [Option.bind_some]
      rw [tM _ (by omega)]; simp only [Option.bind_some]
      rw [(hf _ (by omega)).1, (hf _ (by omega)).2]
      simp only [Option.bind_some, if_true, bne_self_eq_false, laws_FnExactRotationTo.j0, Bool.false_eq_true, if_false]
      rw [tL _ (by omega)]; simp only [Option.bind_some]
      rw [eL _ (by omega)]; simp only [Option.bind_some, if_true]
      rw [tM _ (by omega)]; simp only [Option.bind_some]
      rw [eM _ (by omega)]; simp


end Go.Proofs.Ytnmpkijibhidaaa.Pure
namespace Go.Proofs.Ytnmpkijibhidaaa.PrintWords
/-- The words' lemma, under the name by which the printed row asks for it. -/
abbrev sized_ints := @Go.Proofs.YtnmpkijibhidaaaW.PrintWords.sized_ints
end Go.Proofs.Ytnmpkijibhidaaa.PrintWords
namespace Go.Proofs.Ytnmpkijibhidaaa.Pure

end Go.Proofs.Ytnmpkijibhidaaa.Pure
