/- Proved: the plain statement of the law FnExactReadScale: the program's function and the reference's give the same answer. Conditions: none beyond the statement's own. -/
import Derived.Test.YtnmpkijibhidaaaPFnExactReadScalex3
namespace Go.Proofs.Ytnmpkijibhidaaa.Pure
open Go.RowKit Go.Proofs.Ytnmpkijibhidaaa.PFnExactReadScale Go.Proofs.YtnmpkijibhidaaaW.PrintWords Go.Proofs.YtnmpkijibhidaaaW.PrintLast
set_option linter.unusedVariables false
set_option linter.unusedSimpArgs false

theorem wr {n : Int} (h : -9223372036854775808 ≤ n ∧ n ≤ 9223372036854775807) : wrap64 n = n := by unfold wrap64; omega

theorem l00In_eq (a b c : Int) : spec_l00In.f a b c = some (decide (b ≤ a ∧ a ≤ c)) := by
  unfold spec_l00In.f
  by_cases h : a ≥ b <;> simp [h]

/-- A list that is a scale. -/
def Scale (l : List Int) : Prop := 5 ≤ l.length ∧ rd l 0 = 0 ∧ (∀ j : Nat, j < l.length → 0 < j → rd l ((j : Int) - 1) < rd l j) ∧ rd l ((l.length : Int) - 1) < 12
instance scaleDec (l : List Int) : Decidable (Scale l) := by unfold Scale; infer_instance

theorem Scale.ge {l : List Int} (h : Scale l) : ∀ j : Nat, j < l.length → (j : Int) ≤ rd l j := by
  intro j
  induction j with
  | zero => intro _; have := h.2.1; simp; omega
  | succ j ih =>
    intro hj
    have := ih (by omega)
    have h2 := h.2.2.1 (j + 1) hj (by omega)
    rw [show (((j + 1 : Nat) : Int) - 1) = (j : Int) by omega] at h2
    omega
theorem Scale.lt {l : List Int} (h : Scale l) : ∀ d j : Nat, j + d + 1 = l.length → rd l j < 12 - d := by
  intro d
  induction d with
  | zero => intro j hj; have := h.2.2.2; rw [show ((l.length : Int) - 1) = (j : Int) by omega] at this; omega
  | succ d ih =>
    intro j hj
    have := ih (j + 1) (by omega)
    have h2 := h.2.2.1 (j + 1) (by omega) (by omega)
    rw [show (((j + 1 : Nat) : Int) - 1) = (j : Int) by omega] at h2
    omega
theorem Scale.range {l : List Int} (h : Scale l) (j : Nat) (hj : j < l.length) : 0 ≤ rd l j ∧ rd l j ≤ 11 := by
  have h1 := h.ge j hj
  have h2 := h.lt (l.length - 1 - j) j (by omega)
  omega
theorem Scale.len {l : List Int} (h : Scale l) : 5 ≤ l.length ∧ l.length ≤ 12 := by
  refine ⟨h.1, ?_⟩
  have h1 := h.1
  have h2 := h.ge (l.length - 1) (by omega)
  have h3 := h.range (l.length - 1) (by omega)
  omega

theorem rises_l0 (l : List Int) (hl : l.length ≤ 1048576) (lo hi : Int) (d : Nat) : ∀ (k i : Nat), l.length = i + d → d < k →
    ∃ r, spec_l00Rises.l0 k l lo hi i = some r ∧ (r = true ↔ ∀ j : Nat, i ≤ j → j < l.length → (lo ≤ rd l j ∧ rd l j ≤ hi) ∧ (0 < j → rd l ((j : Int) - 1) < rd l j)) := by
  induction d with
  | zero =>
    intro k i hd hk
    obtain ⟨k, rfl⟩ : ∃ m, k = m + 1 := ⟨k - 1, by omega⟩
    exact ⟨true, by simp only [spec_l00Rises.l0]; rw [if_neg (by omega)], by simp; intro j h1 h2; omega⟩
  | succ d ih =>
    intro k i hd hk
    obtain ⟨k, rfl⟩ : ∃ m, k = m + 1 := ⟨k - 1, by omega⟩
    simp only [spec_l00Rises.l0]
    rw [if_pos (by omega), if_pos (by omega), l00In_eq, Option.bind_some, wr (n := (i : Int) + 1) (by omega), wr (n := (i : Int) - 1) (by omega), show ((i : Int) + 1) = ((i + 1 : Nat) : Int) by omega]
    obtain ⟨r, hr, hiff⟩ := ih k (i + 1) (by omega) (by omega)
    rw [hr]
    by_cases hc : lo ≤ rd l i ∧ rd l i ≤ hi
    · rw [if_pos (decide_eq_true hc)]
      by_cases h0 : i = 0
      · refine ⟨r, by rw [if_neg (by omega)], ?_⟩
        rw [hiff]
        constructor
        · intro h j h1 h2
          by_cases e : j = i
          · subst e; exact ⟨hc, fun h => by omega⟩
          · exact h j (by omega) h2
        · intro h j h1 h2; exact h j (by omega) h2
      · rw [if_pos (by omega), if_pos (by omega), if_pos (by omega)]
        by_cases hr2 : rd l ((i : Int) - 1) < rd l i
        · refine ⟨r, by rw [if_neg (by omega)], ?_⟩
          rw [hiff]
          constructor
          · intro h j h1 h2
            by_cases e : j = i
            · subst e; exact ⟨hc, fun _ => hr2⟩
            · exact h j (by omega) h2
          · intro h j h1 h2; exact h j (by omega) h2
        · refine ⟨false, by rw [if_pos (by omega)], ?_⟩
          simp only [Bool.false_eq_true, false_iff]
          intro h; exact hr2 ((h i (by omega) (by omega)).2 (by omega))
    · refine ⟨false, by rw [if_neg (by simp; omega)], ?_⟩
      simp only [Bool.false_eq_true, false_iff]
      intro h; exact hc (h i (by omega) (by omega)).1

theorem increasing_l0 (l : List Int) (hl : l.length ≤ 1048576) (d : Nat) : ∀ (k i : Nat), 0 < i → l.length ≤ i + d → d < k → i ≤ 1048577 →
    ∃ r, impl_increasing.l0 k l i = some r ∧ (r = true ↔ ∀ j : Nat, i ≤ j → j < l.length → rd l ((j : Int) - 1) < rd l j) := by
  induction d with
  | zero =>
    intro k i hi hd hk hb
    obtain ⟨k, rfl⟩ : ∃ m, k = m + 1 := ⟨k - 1, by omega⟩
    exact ⟨true, by simp only [impl_increasing.l0]; rw [if_neg (by omega)], by simp; intro j h1 h2; omega⟩
  | succ d ih =>
    intro k i hi hd hk hb
    obtain ⟨k, rfl⟩ : ∃ m, k = m + 1 := ⟨k - 1, by omega⟩
    simp only [impl_increasing.l0]
    by_cases hlt : i < l.length
    · rw [if_pos (by omega), if_pos (by omega), wr (n := (i : Int) + 1) (by omega), wr (n := (i : Int) - 1) (by omega), show ((i : Int) + 1) = ((i + 1 : Nat) : Int) by omega, if_pos (by omega), if_pos (by omega)]
      obtain ⟨r, hr, hiff⟩ := ih k (i + 1) (by omega) (by omega) (by omega) (by omega)
      rw [hr]
      by_cases hr2 : rd l ((i : Int) - 1) < rd l i
      · refine ⟨r, by rw [if_neg (by omega)], ?_⟩
        rw [hiff]
        constructor
        · intro h j h1 h2
          by_cases e : j = i
          · subst e; exact hr2
          · exact h j (by omega) h2
        · intro h j h1 h2; exact h j (by omega) h2
      · refine ⟨false, by rw [if_pos (by omega)], ?_⟩
        simp only [Bool.false_eq_true, false_iff]
        intro h; exact hr2 (h i (by omega) hlt)
    · exact ⟨true, by rw [if_neg (by omega)], by simp; intro j h1 h2; omega⟩

theorem l03Scale_eq (k : Nat) (l : List Int) (hl : l.length ≤ 1048576) (hk : l.length < k) : spec_l03Scale.f k l = some (decide (Scale l)) := by
  unfold spec_l03Scale.f spec_l00Rises.f
  by_cases h5 : (l.length : Int) ≥ 5
  · obtain ⟨r, hr, hiff⟩ := rises_l0 l hl 0 11 l.length k 0 (by omega) hk
    simp only [Int.natCast_zero] at hr
    rw [if_pos h5, hr, Option.bind_some]
    by_cases h : r = true
    · rw [if_pos h, if_pos (by omega)]
      have hh := hiff.1 h
      congr 1; rw [Bool.eq_iff_iff, beq_iff_eq, decide_eq_true_iff]
      constructor
      · intro e
        refine ⟨by omega, e, fun j h2 h1 => (hh j (by omega) h2).2 h1, ?_⟩
        have := (hh (l.length - 1) (by omega) (by omega)).1.2
        rw [show ((l.length - 1 : Nat) : Int) = (l.length : Int) - 1 by omega] at this
        omega
      · intro e; exact e.2.1
    · rw [if_neg h]; congr 1; symm; rw [decide_eq_false_iff_not]
      intro e
      exact h (hiff.2 fun j _ h2 => ⟨e.range j h2, fun h1 => e.2.2.1 j h2 h1⟩)
  · rw [if_neg h5]; congr 1; symm; rw [decide_eq_false_iff_not]; intro e; exact h5 (by have := e.1; omega)

theorem ValidScale_eq (k : Nat) (l : List Int) (hl : l.length ≤ 1048576) (hk : l.length < k) : impl_ValidScale.f k l = some (decide (Scale l)) := by
  unfold impl_ValidScale.f impl_increasing.f
  by_cases h5 : (l.length : Int) ≥ 5
  · rw [if_pos h5, if_pos (by omega)]
    by_cases h0 : rd l 0 = 0
    · rw [if_pos h0]
      obtain ⟨r, hr, hiff⟩ := increasing_l0 l hl (l.length - 1) k 1 (by omega) (by omega) (by omega) (by omega)
      rw [show ((1 : Int)) = ((1 : Nat) : Int) by rfl, hr, Option.bind_some, show (((1 : Nat)) : Int) = 1 by rfl]
      by_cases h : r = true
      · rw [if_pos h, wr (n := (l.length : Int) - 1) (by omega), if_pos (by omega), if_pos (by omega)]
        congr 1; rw [Bool.eq_iff_iff, decide_eq_true_iff, decide_eq_true_iff]
        have hh := hiff.1 h
        constructor
        · intro e; exact ⟨by omega, h0, fun j h2 h1 => hh j (by omega) h2, e⟩
        · intro e; exact e.2.2.2
      · rw [if_neg h]; congr 1; symm; rw [decide_eq_false_iff_not]
        intro e; exact h (hiff.2 fun j h1 h2 => e.2.2.1 j h2 (by omega))
    · rw [if_neg h0]; congr 1; symm; rw [decide_eq_false_iff_not]; intro e; exact h0 e.2.1
  · rw [if_neg h5]; congr 1; symm; rw [decide_eq_false_iff_not]; intro e; exact h5 (by have := e.1; omega)

theorem eqInts_l0 (a b : List Int) (hl : a.length ≤ 1048576) (he : a.length = b.length) (d : Nat) : ∀ (k i : Nat), a.length = i + d → d < k →
    ∃ r, laws_eqInt64S.l0 k a b i = some r ∧ (r = true ↔ ∀ j : Nat, i ≤ j → j < a.length → rd a j = rd b j) := by
  induction d with
  | zero =>
    intro k i hd hk
    obtain ⟨k, rfl⟩ : ∃ m, k = m + 1 := ⟨k - 1, by omega⟩
    exact ⟨true, by simp only [laws_eqInt64S.l0]; rw [if_neg (by omega)], by simp; intro j h1 h2; omega⟩
  | succ d ih =>
    intro k i hd hk
    obtain ⟨k, rfl⟩ : ∃ m, k = m + 1 := ⟨k - 1, by omega⟩
    simp only [laws_eqInt64S.l0]
    rw [if_pos (by omega), if_pos (by omega), if_pos (by omega), wr (n := (i : Int) + 1) (by omega), show ((i : Int) + 1) = ((i + 1 : Nat) : Int) by omega]
    obtain ⟨r, hr, hiff⟩ := ih k (i + 1) (by omega) (by omega)
    by_cases hc : rd a i = rd b i
    · refine ⟨r, by rw [if_pos hc, hr], ?_⟩
      rw [hiff]
      constructor
      · intro h j h1 h2
        by_cases e : j = i
        · subst e; exact hc
        · exact h j (by omega) h2
      · intro h j h1 h2; exact h j (by omega) h2
    · exact ⟨false, by rw [if_neg hc], by simp; exact ⟨i, by omega, by omega, hc⟩⟩
theorem rd_nat (l : List Int) (j : Nat) : rd l j = l.getD j 0 := rfl
theorem rd_lt (l : List Int) (j : Nat) (h : j < l.length) : rd l j = l[j] := by rw [rd_nat]; simp [List.getD_eq_getElem?_getD, h]
theorem eqInts_eq (k : Nat) (a b : List Int) (hl : a.length ≤ 1048576) (hk : a.length < k) : laws_eqInt64S.f k a b = some (decide (a = b)) := by
  unfold laws_eqInt64S.f
  by_cases h : (a.length : Int) = (b.length : Int)
  · rw [if_pos h]
    obtain ⟨r, hr, hiff⟩ := eqInts_l0 a b hl (by omega) a.length k 0 (by omega) hk
    rw [show ((0 : Int)) = ((0 : Nat) : Int) by rfl, hr]; congr 1; rw [Bool.eq_iff_iff, hiff, decide_eq_true_iff]
    constructor
    · intro hh
      apply List.ext_getElem (by omega)
      intro j h1 h2
      have := hh j (by omega) h1
      rwa [rd_lt a j h1, rd_lt b j h2] at this
    · rintro rfl j _ _; rfl
  · rw [if_neg h]; congr 1; symm; rw [decide_eq_false_iff_not]; rintro rfl; exact h rfl
theorem eqInts_self (k : Nat) (a : List Int) (hl : a.length ≤ 1048576) (hk : a.length < k) : laws_eqInt64S.f k a a = some true := by
  rw [eqInts_eq k a a hl hk]; simp

/-- The numbers from m on, n of them. -/
def seqI : Nat → Int → List Int
  | 0, _ => []
  | n + 1, m => m :: seqI n (m + 1)
theorem seqI_length (n : Nat) : ∀ m, (seqI n m).length = n := by
  induction n with
  | zero => intro m; rfl
  | succ n ih => intro m; simp [seqI, ih]
theorem mark_l0 (d : Nat) : ∀ (k i : Nat) (m : Int) (pre post : List Int), pre.length = i → post.length = d → i + d ≤ 1048576 → 0 ≤ m → m + d ≤ 2000000 → d < k →
    laws_markInt64S.l0 k (pre ++ post) m i = some (m + d, pre ++ seqI d m) := by
  induction d with
  | zero =>
    intro k i m pre post h2 h3 h4 h5 h6 hk
    obtain ⟨k, rfl⟩ : ∃ m, k = m + 1 := ⟨k - 1, by omega⟩
    obtain rfl := List.length_eq_zero_iff.1 h3
    simp only [laws_markInt64S.l0]; rw [if_neg (by simp; omega)]; simp [seqI]
  | succ d ih =>
    intro k i m pre post h2 h3 h4 h5 h6 hk
    obtain ⟨k, rfl⟩ : ∃ m, k = m + 1 := ⟨k - 1, by omega⟩
    cases post with
    | nil => simp at h3
    | cons x post =>
      have hp : post.length = d := by simpa using h3
      have hlen : (pre ++ x :: post).length = i + d + 1 := by simp; omega
      simp only [laws_markInt64S.l0]
      rw [if_pos (by omega), if_pos (by omega), wr (n := m + 1) (by omega), wr (n := (i : Int) + 1) (by omega), Int.toNat_natCast, List.set_append_right _ _ (by omega), h2, Nat.sub_self, List.set_cons_zero, show ((i : Int) + 1) = ((i + 1 : Nat) : Int) by omega]
      have := ih k (i + 1) (m + 1) (pre ++ [m]) post (by simp [h2]) hp (by omega) (by omega) (by omega) (by omega)
      rw [List.append_assoc] at this
      rw [show m :: post = [m] ++ post from rfl, this]
      congr 2
      · omega
      · simp [seqI]
theorem mark_eq (k : Nat) (l : List Int) (hl : l.length ≤ 1048576) (hk : l.length < k) : laws_markInt64S.f k l 1 = some (1 + (l.length : Int), seqI l.length 1) := by
  unfold laws_markInt64S.f
  have := mark_l0 l.length k 0 1 [] l rfl rfl (by omega) (by omega) (by omega) hk
  simpa using this
theorem held_l0 (d : Nat) : ∀ (k i : Nat) (m : Int) (pre : List Int), pre.length = i → i + d ≤ 1048576 → 0 ≤ m → m + d ≤ 2000000 → d < k →
    laws_heldInt64S.l0 k (pre ++ seqI d m) m i = some (m + d) := by
  induction d with
  | zero =>
    intro k i m pre h2 h4 h5 h6 hk
    obtain ⟨k, rfl⟩ : ∃ m, k = m + 1 := ⟨k - 1, by omega⟩
    have hl : (pre ++ seqI 0 m).length = i := by simp [seqI, h2]
    simp only [laws_heldInt64S.l0]; rw [if_neg (by omega)]; simp
  | succ d ih =>
    intro k i m pre h2 h4 h5 h6 hk
    obtain ⟨k, rfl⟩ : ∃ m, k = m + 1 := ⟨k - 1, by omega⟩
    have hlen : (pre ++ seqI (d + 1) m).length = i + d + 1 := by rw [List.length_append, seqI_length]; omega
    have hr : rd (pre ++ seqI (d + 1) m) i = m := by
      unfold rd
      rw [Int.toNat_natCast, List.getD_eq_getElem?_getD, List.getElem?_append_right (by omega), h2, Nat.sub_self]
      rfl
    simp only [laws_heldInt64S.l0]
    rw [if_pos (by omega), if_pos (by omega), if_pos hr, wr (n := m + 1) (by omega), wr (n := (i : Int) + 1) (by omega), show ((i : Int) + 1) = ((i + 1 : Nat) : Int) by omega]
    have := ih k (i + 1) (m + 1) (pre ++ [m]) (by simp [h2]) (by omega) (by omega) (by omega) (by omega)
    rw [List.append_assoc] at this
    rw [show seqI (d + 1) m = [m] ++ seqI d (m + 1) from rfl, this]
    congr 1; omega
theorem held_eq (k n : Nat) (hl : n ≤ 1048576) (hk : n < k) : laws_heldInt64S.f k (seqI n 1) 1 = some (1 + (n : Int)) := by
  unfold laws_heldInt64S.f
  have := held_l0 n k 0 1 [] rfl (by omega) (by omega) (by omega) hk
  simpa using this

/-- The tone that a byte names, or -1. -/
def nm (c : UInt8) : Int := Go.Lib.index (⟨#[83, 114, 82, 103, 71, 109, 77, 80, 100, 68, 110, 78]⟩ : ByteArray).data.toList [c]
theorem named_all : ∀ n : Nat, n < 256 → spec_l03Named.f 14 (n : Int) = some (nm (UInt8.ofNat n)) ∧ impl_ToneNamed.f ⟨#[UInt8.ofNat n]⟩ = some (if nm (UInt8.ofNat n) < 0 then (0, false) else (nm (UInt8.ofNat n), true)) := by decide +kernel
theorem named_up (c : Int) (r : Int) (h : spec_l03Named.f 14 c = some r) (j : Nat) : spec_l03Named.f (14 + j) c = some r := by
  induction j with
  | zero => exact h
  | succ j ih => exact spec_l03Named.mono _ _ _ ih
theorem named_eq (c : UInt8) (k : Nat) (hk : 14 ≤ k) : spec_l03Named.f k (c.toNat : Int) = some (nm c) ∧ impl_ToneNamed.f ⟨#[c]⟩ = some (if nm c < 0 then (0, false) else (nm c, true)) := by
  obtain ⟨h1, h2⟩ := named_all c.toNat c.toNat_lt
  rw [UInt8.ofNat_toNat] at h1 h2
  refine ⟨?_, h2⟩
  have := named_up _ _ h1 (k - 14)
  rwa [show 14 + (k - 14) = k by omega] at this
theorem extract_one (x : ByteArray) (i : Nat) (h : i < x.size) : x.extract i (i + 1) = ⟨#[x.data[i]'h]⟩ := by
  apply ByteArray.ext
  rw [ByteArray.data_extract]
  apply Array.ext
  · have : x.data.size = x.size := rfl
    simp; omega
  · intro j h1 h2
    simp at h2
    subst h2
    simp
theorem bt_at' (x : ByteArray) (i : Nat) (h : i < x.size) : bt x i = ((x.data[i]'h).toNat : Int) := by
  unfold bt
  simp only [Int.toNat_natCast]
  rw [dif_pos h]; rfl
/-- The tones of a text from place i on, d of them. -/
def nms (x : ByteArray) : Nat → Nat → List Int
  | 0, _ => []
  | d + 1, i => nm (x.data.getD i 0) :: nms x d (i + 1)
def fin (l : List Int) : List Int × Bool := if Scale l then (l, true) else ([], false)
theorem nms_length (x : ByteArray) (d : Nat) : ∀ i, (nms x d i).length = d := by
  induction d with
  | zero => intro i; rfl
  | succ d ih => intro i; simp [nms, ih]
theorem getD_at (x : ByteArray) (i : Nat) (h : i < x.size) : x.data.getD i 0 = x.data[i]'h := by
  simp [Array.getD_eq_getD_getElem?, Array.getElem?_eq_getElem (show i < x.data.size from h)]
theorem not_scale (z : List Int) (n : Int) (l : List Int) (h : n < 0) : ¬ Scale (z ++ n :: l) := by
  intro hs
  have := hs.range z.length (by simp)
  rw [rd_lt _ _ (by simp)] at this
  simp at this
  omega
theorem read_l0 (x : ByteArray) (hx : x.size ≤ 1048576) (d : Nat) : ∀ (i : Nat) (z : List Int), x.size = i + d → z.length ≤ i →
    ∀ k, 1048600 + d < k → spec_l03Read.l0 k x z i = some (fin (z ++ nms x d i)) ∧ impl_ReadScale.l0 k x z x.size i = some (fin (z ++ nms x d i)) := by
  induction d with
  | zero =>
    intro i z hd hz k hk
    obtain ⟨k, rfl⟩ : ∃ m, k = m + 1 := ⟨k - 1, by omega⟩
    have e : ¬ (i : Int) < (x.size : Int) := by omega
    simp only [spec_l03Read.l0, impl_ReadScale.l0, nms, List.append_nil]
    rw [if_neg e, if_neg e, l03Scale_eq _ _ (by omega) (by omega), ValidScale_eq _ _ (by omega) (by omega)]
    by_cases h : Scale z <;> simp [h, fin]
  | succ d ih =>
    intro i z hd hz k hk
    obtain ⟨k, rfl⟩ : ∃ m, k = m + 1 := ⟨k - 1, by omega⟩
    have e : (i : Int) < (x.size : Int) := by omega
    have e0 : 0 ≤ (i : Int) := by omega
    have ew : wrap64 ((i : Int) + 1) = ((i + 1 : Nat) : Int) := by rw [wr (n := (i : Int) + 1) (by omega)]; omega
    have e1 : (i : Int) ≤ ((i + 1 : Nat) : Int) := by omega
    have e2 : ((i + 1 : Nat) : Int) ≤ (x.size : Int) := by omega
    have eq1 : z.length < 17592186044416 := by omega
    have hi : i < x.size := by omega
    have hex := extract_one x i hi
    obtain ⟨n1, n2⟩ := named_eq (x.data[i]'hi) k (by omega)
    obtain ⟨i1, i2⟩ := ih (i + 1) (z ++ [nm (x.data[i]'hi)]) (by omega) (by simp; omega) k (by omega)
    rw [List.append_assoc] at i1 i2
    simp only [spec_l03Read.l0, impl_ReadScale.l0, nms, getD_at x i hi]
    rw [if_pos e, if_pos e0, bt_at' x i hi, n1, ew, Option.bind_some, if_pos eq1, i1, if_pos e, if_pos e0, if_pos e1, if_pos e2, Int.toNat_natCast, Int.toNat_natCast, hex, n2, Option.bind_some]
    refine ⟨rfl, ?_⟩
    by_cases hn : nm (x.data[i]'hi) < 0
    · rw [if_pos hn]
      simp [fin, not_scale z _ (nms x d (i + 1)) hn]
    · rw [if_neg hn]
      simp only [if_true, if_pos eq1]
      exact i2
theorem FnExactReadScale : laws_FnExactReadScale.Pure := by
  intro x _
  refine ⟨4000000, ?_⟩
  unfold laws_FnExactReadScale.f
  by_cases c : (x.size : Int) > 1048576
  · rw [if_pos c]
  · rw [if_neg c]
    have hx : x.size ≤ 1048576 := by omega
    have hs : ∀ k, 3000000 < k → spec_ReadScale.f k x = some (fin (nms x x.size 0)) := fun k hk => by
      have := (read_l0 x hx x.size 0 [] (by omega) (by simp) k (by omega)).1
      simp only [Int.natCast_zero, List.nil_append] at this
      unfold spec_ReadScale.f spec_l03Read.f
      rw [this]; rfl
    have hi : ∀ k, 3000000 < k → impl_ReadScale.f k x = some (fin (nms x x.size 0)) := fun k hk => by
      have := (read_l0 x hx x.size 0 [] (by omega) (by simp) k (by omega)).2
      simp only [Int.natCast_zero, List.nil_append] at this
      unfold impl_ReadScale.f
      exact this
    have hl : (fin (nms x x.size 0)).1.length ≤ 1048576 := by
      unfold fin
      split
      · dsimp only; rw [nms_length]; omega
      · simp
    generalize fin (nms x x.size 0) = r at *
    obtain ⟨r1, r2⟩ := r
    dsimp only at hl
    rw [hs _ (by omega), Option.bind_some, hi _ (by omega), Option.bind_some]
    dsimp only
    rw [eqInts_self _ r1 hl (by omega), Option.bind_some, if_pos rfl, bne_self_eq_false]
    simp only [laws_FnExactReadScale.j0, Bool.false_eq_true, if_false]
    rw [mark_eq _ r1 hl (by omega), Option.bind_some]
    dsimp only
    rw [held_eq _ _ hl (by omega), Option.bind_some, if_neg (by omega), if_pos rfl, hi _ (by omega), Option.bind_some]
    dsimp only
    rw [eqInts_self _ r1 hl (by omega), Option.bind_some, if_pos rfl, bne_self_eq_false]
    simp only [laws_FnExactReadScale.j1, Bool.false_eq_true, if_false]
    rw [held_eq _ _ hl (by omega), Option.bind_some, if_neg (by omega), if_pos rfl]

end Go.Proofs.Ytnmpkijibhidaaa.Pure
