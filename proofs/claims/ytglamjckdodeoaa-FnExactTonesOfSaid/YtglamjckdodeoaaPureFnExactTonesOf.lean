/- Proved: the plain statement of the law FnExactTonesOf: the program's function and the reference's give the same answer. Conditions: none beyond the statement's own. -/
import Derived.Test.YtglamjckdodeoaaStmFnExactTonesOf
namespace Go.Proofs.Ytglamjckdodeoaa.Pure
open Go.RowKit Go.Proofs.Ytglamjckdodeoaa.PFnExactTonesOf Go.Proofs.YtglamjckdodeoaaW.PrintWords Go.Proofs.YtglamjckdodeoaaW.PrintLast
set_option linter.unusedVariables false
set_option linter.unusedSimpArgs false

theorem wr {n : Int} (h : -9223372036854775808 ≤ n ∧ n ≤ 9223372036854775807) : wrap64 n = n := by unfold wrap64; omega

theorem set_take_step (l m : List Int) (i : Nat) (hi : i < l.length) (hm : m = l.take i ++ List.replicate (l.length - i) 0) :
    m.set i (rd l i) = l.take (i + 1) ++ List.replicate (l.length - (i + 1)) 0 := by
  subst hm
  have e : rd l i = l[i] := by unfold rd; simp [List.getD_eq_getElem?_getD, hi]
  have h1 : (l.take i).length = i := by simp; omega
  have : l.length - i = (l.length - (i + 1)) + 1 := by omega
  rw [e, List.take_succ_eq_append_getElem hi, this, List.replicate_succ, List.set_append_right _ _ (by omega), h1, Nat.sub_self, List.set_cons_zero, List.append_assoc]
  rfl
theorem toInts_l0 (l : List Int) (hl : l.length ≤ 1048576) (d : Nat) : ∀ (k i : Nat) (m : List Int), l.length = i + d → d < k →
    m = l.take i ++ List.replicate (l.length - i) 0 → laws_toInt64S.l0 k l m i = some l := by
  induction d with
  | zero =>
    intro k i m hd hk hm
    obtain ⟨k, rfl⟩ : ∃ m, k = m + 1 := ⟨k - 1, by omega⟩
    simp only [laws_toInt64S.l0]; rw [if_neg (by omega), hm, show l.length - i = 0 by omega, List.take_of_length_le (by omega)]; simp
  | succ d ih =>
    intro k i m hd hk hm
    obtain ⟨k, rfl⟩ : ∃ m, k = m + 1 := ⟨k - 1, by omega⟩
    have hml : m.length = l.length := by subst hm; simp; omega
    simp only [laws_toInt64S.l0]
    rw [if_pos (by omega), if_pos (by omega), if_pos (by omega), wr (n := (i : Int) + 1) (by omega), show ((i : Int) + 1) = ((i + 1 : Nat) : Int) by omega]
    apply ih k (i + 1) _ (by omega) (by omega)
    rw [Int.toNat_natCast]
    exact set_take_step l m i (by omega) hm
theorem toInts_eq (k : Nat) (l : List Int) (hl : l.length ≤ 1048576) (hk : l.length < k) : laws_toInt64S.f k l = some l := by
  unfold laws_toInt64S.f
  rw [if_pos (by omega), if_pos (by omega)]
  exact toInts_l0 l hl l.length k 0 _ (by omega) hk (by simp)

theorem eqInts_l0 (a b : List Int) (hl : a.length ≤ 1048576) (he : a.length = b.length) (d : Nat) : ∀ (k i : Nat), a.length = i + d → d < k →
    ∃ r, laws_eqInt64S.l0 k a b i = some r ∧ (r = true ↔ ∀ j : Nat, i ≤ j → j < a.length → rd a j = rd b j) := by
  induction d with
  | zero =>
    intro k i hd hk
    obtain ⟨k, rfl⟩ : ∃ m, k = m + 1 := ⟨k - 1, by omega⟩
    exact ⟨true, by simp only [laws_eqInt64S.l0]; rw [if_neg (by omega)], by simp; intro j h1 h2; omega⟩
  | succ d ih =>
    intro k i hd hk
    obtain ⟨k, rfl⟩ : ∃ m, k = m + 1 := ⟨k - 1, by omega⟩
    simp only [laws_eqInt64S.l0]
    rw [if_pos (by omega), if_pos (by omega), if_pos (by omega), wr (n := (i : Int) + 1) (by omega), show ((i : Int) + 1) = ((i + 1 : Nat) : Int) by omega]
    obtain ⟨r, hr, hiff⟩ := ih k (i + 1) (by omega) (by omega)
    by_cases hc : rd a i = rd b i
    · refine ⟨r, by rw [if_pos hc, hr], ?_⟩
      rw [hiff]
      constructor
      · intro h j h1 h2
        by_cases e : j = i
        · subst e; exact hc
        · exact h j (by omega) h2
      · intro h j h1 h2; exact h j (by omega) h2
    · exact ⟨false, by rw [if_neg hc], by simp; exact ⟨i, by omega, by omega, hc⟩⟩
theorem rd_nat (l : List Int) (j : Nat) : rd l j = l.getD j 0 := rfl
theorem rd_lt (l : List Int) (j : Nat) (h : j < l.length) : rd l j = l[j] := by rw [rd_nat]; simp [List.getD_eq_getElem?_getD, h]
theorem eqInts_eq (k : Nat) (a b : List Int) (hl : a.length ≤ 1048576) (hk : a.length < k) : laws_eqInt64S.f k a b = some (decide (a = b)) := by
  unfold laws_eqInt64S.f
  by_cases h : (a.length : Int) = (b.length : Int)
  · rw [if_pos h]
    obtain ⟨r, hr, hiff⟩ := eqInts_l0 a b hl (by omega) a.length k 0 (by omega) hk
    rw [show ((0 : Int)) = ((0 : Nat) : Int) by rfl, hr]; congr 1; rw [Bool.eq_iff_iff, hiff, decide_eq_true_iff]
    constructor
    · intro hh
      apply List.ext_getElem (by omega)
      intro j h1 h2
      have := hh j (by omega) h1
      rwa [rd_lt a j h1, rd_lt b j h2] at this
    · rintro rfl j _ _; rfl
  · rw [if_neg h]; congr 1; symm; rw [decide_eq_false_iff_not]; rintro rfl; exact h rfl
theorem eqInts_self (k : Nat) (a : List Int) (hl : a.length ≤ 1048576) (hk : a.length < k) : laws_eqInt64S.f k a a = some true := by
  rw [eqInts_eq k a a hl hk]; simp

theorem rdR_lt (l : List (List Int)) (j : Nat) (h : j < l.length) : rd_L1 l j = l[j] := by
  unfold rd_L1; rw [Int.toNat_natCast, List.getD_eq_getElem?_getD, List.getElem?_eq_getElem h]; rfl
theorem szSS_l0 (l : List (List Int)) (hl : l.length ≤ 1048576) (hn : ∀ p ∈ l, p.length ≤ maxLen) (d : Nat) : ∀ (i : Nat) (left : Int), l.length = i + d → 0 ≤ left ∧ left ≤ 1048576 →
    ∃ r, (∀ k, d < k → laws_szInt64SS.l0 k l left i = some r) ∧ (r < 0 ∨ (0 ≤ r ∧ r ≤ left ∧ ∀ j, i ≤ j → j < l.length → (rd_L1 l j).length ≤ 1048576)) := by
  induction d with
  | zero =>
    intro i left hd hb
    refine ⟨left, fun k hk => ?_, .inr ⟨hb.1, by omega, fun j h1 h2 => by omega⟩⟩
    obtain ⟨k, rfl⟩ : ∃ m, k = m + 1 := ⟨k - 1, by omega⟩
    simp only [laws_szInt64SS.l0]; rw [if_neg (by omega)]
  | succ d ih =>
    intro i left hd hb
    have hp : (rd_L1 l i).length ≤ maxLen := by rw [rdR_lt l i (by omega)]; exact hn _ (List.getElem_mem _)
    unfold maxLen at hp
    by_cases c : left - ((rd_L1 l i).length : Int) < 0
    · refine ⟨-1, fun k hk => ?_, .inl (by omega)⟩
      obtain ⟨k, rfl⟩ : ∃ m, k = m + 1 := ⟨k - 1, by omega⟩
      simp only [laws_szInt64SS.l0, laws_szInt64S.f]
      rw [if_pos (by omega), if_pos (by omega), wr (n := left - ((rd_L1 l i).length : Int)) (by omega), if_pos c, Option.bind_some, if_pos (by omega)]
    · obtain ⟨r, h1, h2⟩ := ih (i + 1) (left - ((rd_L1 l i).length : Int)) (by omega) (by omega)
      refine ⟨r, fun k hk => ?_, h2.imp_right fun ⟨h3, h4, h5⟩ => ⟨h3, by omega, fun j q1 q2 => ?_⟩⟩
      · obtain ⟨k, rfl⟩ : ∃ m, k = m + 1 := ⟨k - 1, by omega⟩
        simp only [laws_szInt64SS.l0, laws_szInt64S.f]
        rw [if_pos (by omega), if_pos (by omega), wr (n := left - ((rd_L1 l i).length : Int)) (by omega), if_neg c, Option.bind_some, if_neg (by omega), wr (n := (i : Int) + 1) (by omega), show ((i : Int) + 1) = ((i + 1 : Nat) : Int) by omega]
        exact h1 k (by omega)
      · by_cases e : j = i
        · subst e; omega
        · exact h5 j (by omega) q2
theorem szRaga_eq (a : ByteArray) (u v : List Int) (s t : Int) (f : List (List Int)) (left : Int) (ha : a.size ≤ maxLen) (hu : u.length ≤ maxLen) (hv : v.length ≤ maxLen) (hf : f.length ≤ maxLen) (hn : ∀ p ∈ f, p.length ≤ maxLen) (h : 0 ≤ left ∧ left ≤ 1048576) :
    ∃ r, (∀ k, 1048576 < k → laws_szRaga.f k a u v s t f left = some r) ∧ (r < 0 ∨ (0 ≤ r ∧ r ≤ left ∧ u.length ≤ 1048576 ∧ v.length ≤ 1048576 ∧ f.length ≤ 1048576 ∧ ∀ j, j < f.length → (rd_L1 f j).length ≤ 1048576)) := by
  have hn' := hn
  unfold maxLen at ha hu hv hf
  unfold laws_szRaga.f laws_szInt64S.f laws_szInt64SS.f
  rw [wr (n := left - (a.size : Int)) (by omega)]
  by_cases c1 : left - (a.size : Int) < 0
  · exact ⟨-1, fun k _ => by rw [if_pos c1], .inl (by omega)⟩
  · rw [wr (n := left - (a.size : Int) - (u.length : Int)) (by omega)]
    by_cases c2 : left - (a.size : Int) - (u.length : Int) < 0
    · exact ⟨-1, fun k _ => by rw [if_neg c1, if_pos c2]; rfl, .inl (by omega)⟩
    · by_cases c3 : left - (a.size : Int) - (u.length : Int) - (v.length : Int) < 0
      · exact ⟨-1, fun k _ => by rw [if_neg c1, if_neg c2, Option.bind_some, if_neg c2, wr (n := left - (a.size : Int) - (u.length : Int) - (v.length : Int)) (by omega), if_pos c3]; rfl, .inl (by omega)⟩
      · by_cases c4 : left - (a.size : Int) - (u.length : Int) - (v.length : Int) - (f.length : Int) < 0
        · exact ⟨-1, fun k _ => by rw [if_neg c1, if_neg c2, Option.bind_some, if_neg c2, wr (n := left - (a.size : Int) - (u.length : Int) - (v.length : Int)) (by omega), if_neg c3, Option.bind_some, if_neg c3, wr (n := left - (a.size : Int) - (u.length : Int) - (v.length : Int) - (f.length : Int)) (by omega), if_pos c4]; rfl, .inl (by omega)⟩
        · obtain ⟨r, h1, h2⟩ := szSS_l0 f (by omega) hn' f.length 0 (left - (a.size : Int) - (u.length : Int) - (v.length : Int) - (f.length : Int)) (by omega) (by omega)
          have e : ∀ k, 1048576 < k → laws_szInt64SS.l0 k f (left - (a.size : Int) - (u.length : Int) - (v.length : Int) - (f.length : Int)) 0 = some r := fun k hk => h1 k (by omega)
          rcases h2 with h2 | ⟨h3, h4, h5⟩
          · refine ⟨-1, fun k hk => ?_, .inl (by omega)⟩
            rw [if_neg c1, if_neg c2, Option.bind_some, if_neg c2, wr (n := left - (a.size : Int) - (u.length : Int) - (v.length : Int)) (by omega), if_neg c3, Option.bind_some, if_neg c3, wr (n := left - (a.size : Int) - (u.length : Int) - (v.length : Int) - (f.length : Int)) (by omega), if_neg c4, e k hk, Option.bind_some, if_pos h2]
          · refine ⟨r, fun k hk => ?_, .inr ⟨h3, by omega, by omega, by omega, by omega, fun j hj => h5 j (by omega) hj⟩⟩
            rw [if_neg c1, if_neg c2, Option.bind_some, if_neg c2, wr (n := left - (a.size : Int) - (u.length : Int) - (v.length : Int)) (by omega), if_neg c3, Option.bind_some, if_neg c3, wr (n := left - (a.size : Int) - (u.length : Int) - (v.length : Int) - (f.length : Int)) (by omega), if_neg c4, e k hk, Option.bind_some, if_neg (by omega)]
theorem toSS_l0 (l : List (List Int)) (hl : l.length ≤ 1048576) (hn : ∀ j : Nat, j < l.length → (rd_L1 l j).length ≤ 1048576) (d : Nat) : ∀ (k i : Nat) (m : List (List Int)), l.length = i + d → d + 1048577 < k →
    m = l.take i ++ List.replicate (l.length - i) [] → laws_toInt64SS.l0 k l m i = some l := by
  induction d with
  | zero =>
    intro k i m hd hk hm
    obtain ⟨k, rfl⟩ : ∃ m, k = m + 1 := ⟨k - 1, by omega⟩
    simp only [laws_toInt64SS.l0]; rw [if_neg (by omega), hm, show l.length - i = 0 by omega, List.take_of_length_le (by omega)]; simp
  | succ d ih =>
    intro k i m hd hk hm
    obtain ⟨k, rfl⟩ : ∃ m, k = m + 1 := ⟨k - 1, by omega⟩
    have hml : m.length = l.length := by subst hm; simp; omega
    have hp := hn i (by omega)
    simp only [laws_toInt64SS.l0]
    rw [if_pos (by omega), if_pos (by omega), toInts_eq k _ hp (by omega)]
    simp only [Option.bind_some]
    rw [if_pos (by omega), wr (n := (i : Int) + 1) (by omega), show ((i : Int) + 1) = ((i + 1 : Nat) : Int) by omega]
    apply ih k (i + 1) _ (by omega) (by omega)
    have h1 : (l.take i).length = i := by simp; omega
    rw [Int.toNat_natCast, hm, rdR_lt l i (by omega), List.take_succ_eq_append_getElem (by omega), show l.length - i = (l.length - (i + 1)) + 1 by omega, List.replicate_succ, List.set_append_right _ _ (by omega), h1, Nat.sub_self, List.set_cons_zero, List.append_assoc]
    rfl
theorem eqSS_l0 (l : List (List Int)) (hl : l.length ≤ 1048576) (hn : ∀ j : Nat, j < l.length → (rd_L1 l j).length ≤ 1048576) (d : Nat) : ∀ (k i : Nat), l.length = i + d → d + 1048577 < k → laws_eqInt64SS.l0 k l l i = some true := by
  induction d with
  | zero =>
    intro k i hd hk
    obtain ⟨k, rfl⟩ : ∃ m, k = m + 1 := ⟨k - 1, by omega⟩
    simp only [laws_eqInt64SS.l0]; rw [if_neg (by omega)]
  | succ d ih =>
    intro k i hd hk
    obtain ⟨k, rfl⟩ : ∃ m, k = m + 1 := ⟨k - 1, by omega⟩
    have hp := hn i (by omega)
    simp only [laws_eqInt64SS.l0]
    rw [if_pos (by omega), if_pos (by omega), if_pos (by omega), eqInts_self k _ hp (by omega), Option.bind_some, if_pos rfl, wr (n := (i : Int) + 1) (by omega), show ((i : Int) + 1) = ((i + 1 : Nat) : Int) by omega]
    exact ih k (i + 1) (by omega) (by omega)
/-- The sizes that a law lets in. -/
def Small (u v : List Int) (f : List (List Int)) : Prop := u.length ≤ 1048576 ∧ v.length ≤ 1048576 ∧ f.length ≤ 1048576 ∧ ∀ j : Nat, j < f.length → (rd_L1 f j).length ≤ 1048576
theorem toRaga_eq (k : Nat) (a : ByteArray) (u v : List Int) (s t : Int) (f : List (List Int)) (h : Small u v f) (hk : 3000000 < k) : laws_toRaga.f k a u v s t f = some (a, u, v, s, t, f) := by
  obtain ⟨h1, h2, h3, h4⟩ := h
  have e := toSS_l0 f h3 h4 f.length k 0 (List.replicate (f.length : Int).toNat []) (by omega) (by omega) (by simp)
  simp only [Int.natCast_zero] at e
  unfold laws_toRaga.f laws_toInt64SS.f
  rw [toInts_eq k u h1 (by omega), Option.bind_some, toInts_eq k v h2 (by omega), Option.bind_some, if_pos (by omega), if_pos (by omega), e]
  rfl
theorem eqRaga_self (k : Nat) (a : ByteArray) (u v : List Int) (s t : Int) (f : List (List Int)) (h : Small u v f) (hk : 3000000 < k) : laws_eqRaga.f k a u v s t f a u v s t f = some true := by
  obtain ⟨h1, h2, h3, h4⟩ := h
  have e := eqSS_l0 f h3 h4 f.length k 0 (by omega) (by omega)
  simp only [Int.natCast_zero] at e
  unfold laws_eqRaga.f laws_eqInt64SS.f
  rw [if_pos rfl, eqInts_self k u h1 (by omega), Option.bind_some, if_pos rfl, eqInts_self k v h2 (by omega), Option.bind_some, if_pos rfl, if_pos rfl, if_pos rfl, if_pos rfl, e]
  rfl

theorem has_l0 (l : List Int) (a : Int) (hl : l.length ≤ 1048576) (d : Nat) : ∀ (i : Nat), l.length = i + d →
    ∃ (r : Bool) (v : Int), (∀ k, d < k → spec_l00Has.l0 k l a i = some r ∧ slices_Index_int64_int64.l0 k l a l.length i = some v) ∧ r = decide (v ≥ 0) ∧ (r = true → ∃ j : Nat, j < l.length ∧ rd l j = a) := by
  induction d with
  | zero =>
    intro i hd
    refine ⟨false, -1, fun k hk => ?_, by decide, by simp⟩
    obtain ⟨k, rfl⟩ : ∃ m, k = m + 1 := ⟨k - 1, by omega⟩
    simp only [spec_l00Has.l0, slices_Index_int64_int64.l0]
    rw [if_neg (by omega), if_neg (by omega)]; exact ⟨rfl, rfl⟩
  | succ d ih =>
    intro i hd
    by_cases hc : rd l i = a
    · refine ⟨true, (i : Int), fun k hk => ?_, by simp, fun _ => ⟨i, by omega, hc⟩⟩
      obtain ⟨k, rfl⟩ : ∃ m, k = m + 1 := ⟨k - 1, by omega⟩
      simp only [spec_l00Has.l0, slices_Index_int64_int64.l0]
      rw [if_pos (by omega), if_pos (by omega), if_pos hc, if_pos (by omega), if_pos (by omega), if_pos (by omega), if_pos hc.symm]; exact ⟨rfl, rfl⟩
    · obtain ⟨r, v, h1, h2, h3⟩ := ih (i + 1) (by omega)
      refine ⟨r, v, fun k hk => ?_, h2, h3⟩
      obtain ⟨k, rfl⟩ : ∃ m, k = m + 1 := ⟨k - 1, by omega⟩
      simp only [spec_l00Has.l0, slices_Index_int64_int64.l0]
      rw [if_pos (by omega), if_pos (by omega), if_neg hc, if_pos (by omega), if_pos (by omega), if_pos (by omega), if_neg (fun h => hc h.symm), wr (n := (i : Int) + 1) (by omega), show ((i : Int) + 1) = ((i + 1 : Nat) : Int) by omega]
      exact h1 k (by omega)
theorem has_eq (l : List Int) (a : Int) (hl : l.length ≤ 1048576) : ∃ r : Bool, (∀ k, l.length < k → spec_l00Has.f k l a = some r ∧ slices_Contains_int64_int64.f k l a = some r) ∧ (r = true → ∃ j : Nat, j < l.length ∧ rd l j = a) := by
  obtain ⟨r, v, h1, h2, h3⟩ := has_l0 l a hl l.length 0 (by omega)
  refine ⟨r, fun k hk => ?_, h3⟩
  unfold spec_l00Has.f slices_Contains_int64_int64.f slices_Index_int64_int64.f
  have := h1 k hk
  simp only [Int.natCast_zero] at this
  rw [this.1, this.2, Option.bind_some, h2]; exact ⟨rfl, rfl⟩

theorem l00In_eq (a b c : Int) : spec_l00In.f a b c = some (decide (b ≤ a ∧ a ≤ c)) := by
  unfold spec_l00In.f
  by_cases h : a ≥ b <;> simp [h]

/-- A list that is a scale. -/
def Scale (l : List Int) : Prop := 5 ≤ l.length ∧ rd l 0 = 0 ∧ (∀ j : Nat, j < l.length → 0 < j → rd l ((j : Int) - 1) < rd l j) ∧ rd l ((l.length : Int) - 1) < 12
instance scaleDec (l : List Int) : Decidable (Scale l) := by unfold Scale; infer_instance

theorem Scale.ge {l : List Int} (h : Scale l) : ∀ j : Nat, j < l.length → (j : Int) ≤ rd l j := by
  intro j
  induction j with
  | zero => intro _; have := h.2.1; simp; omega
  | succ j ih =>
    intro hj
    have := ih (by omega)
    have h2 := h.2.2.1 (j + 1) hj (by omega)
    rw [show (((j + 1 : Nat) : Int) - 1) = (j : Int) by omega] at h2
    omega
theorem Scale.lt {l : List Int} (h : Scale l) : ∀ d j : Nat, j + d + 1 = l.length → rd l j < 12 - d := by
  intro d
  induction d with
  | zero => intro j hj; have := h.2.2.2; rw [show ((l.length : Int) - 1) = (j : Int) by omega] at this; omega
  | succ d ih =>
    intro j hj
    have := ih (j + 1) (by omega)
    have h2 := h.2.2.1 (j + 1) (by omega) (by omega)
    rw [show (((j + 1 : Nat) : Int) - 1) = (j : Int) by omega] at h2
    omega
theorem Scale.range {l : List Int} (h : Scale l) (j : Nat) (hj : j < l.length) : 0 ≤ rd l j ∧ rd l j ≤ 11 := by
  have h1 := h.ge j hj
  have h2 := h.lt (l.length - 1 - j) j (by omega)
  omega
theorem Scale.len {l : List Int} (h : Scale l) : 5 ≤ l.length ∧ l.length ≤ 12 := by
  refine ⟨h.1, ?_⟩
  have h1 := h.1
  have h2 := h.ge (l.length - 1) (by omega)
  have h3 := h.range (l.length - 1) (by omega)
  omega

theorem rises_l0 (l : List Int) (hl : l.length ≤ 1048576) (lo hi : Int) (d : Nat) : ∀ (k i : Nat), l.length = i + d → d < k →
    ∃ r, spec_l00Rises.l0 k l lo hi i = some r ∧ (r = true ↔ ∀ j : Nat, i ≤ j → j < l.length → (lo ≤ rd l j ∧ rd l j ≤ hi) ∧ (0 < j → rd l ((j : Int) - 1) < rd l j)) := by
  induction d with
  | zero =>
    intro k i hd hk
    obtain ⟨k, rfl⟩ : ∃ m, k = m + 1 := ⟨k - 1, by omega⟩
    exact ⟨true, by simp only [spec_l00Rises.l0]; rw [if_neg (by omega)], by simp; intro j h1 h2; omega⟩
  | succ d ih =>
    intro k i hd hk
    obtain ⟨k, rfl⟩ : ∃ m, k = m + 1 := ⟨k - 1, by omega⟩
    simp only [spec_l00Rises.l0]
    rw [if_pos (by omega), if_pos (by omega), l00In_eq, Option.bind_some, wr (n := (i : Int) + 1) (by omega), wr (n := (i : Int) - 1) (by omega), show ((i : Int) + 1) = ((i + 1 : Nat) : Int) by omega]
    obtain ⟨r, hr, hiff⟩ := ih k (i + 1) (by omega) (by omega)
    rw [hr]
    by_cases hc : lo ≤ rd l i ∧ rd l i ≤ hi
    · rw [if_pos (decide_eq_true hc)]
      by_cases h0 : i = 0
      · refine ⟨r, by rw [if_neg (by omega)], ?_⟩
        rw [hiff]
        constructor
        · intro h j h1 h2
          by_cases e : j = i
          · subst e; exact ⟨hc, fun h => by omega⟩
          · exact h j (by omega) h2
        · intro h j h1 h2; exact h j (by omega) h2
      · rw [if_pos (by omega), if_pos (by omega), if_pos (by omega)]
        by_cases hr2 : rd l ((i : Int) - 1) < rd l i
        · refine ⟨r, by rw [if_neg (by omega)], ?_⟩
          rw [hiff]
          constructor
          · intro h j h1 h2
            by_cases e : j = i
            · subst e; exact ⟨hc, fun _ => hr2⟩
            · exact h j (by omega) h2
          · intro h j h1 h2; exact h j (by omega) h2
        · refine ⟨false, by rw [if_pos (by omega)], ?_⟩
          simp only [Bool.false_eq_true, false_iff]
          intro h; exact hr2 ((h i (by omega) (by omega)).2 (by omega))
    · refine ⟨false, by rw [if_neg (by simp; omega)], ?_⟩
      simp only [Bool.false_eq_true, false_iff]
      intro h; exact hc (h i (by omega) (by omega)).1

theorem increasing_l0 (l : List Int) (hl : l.length ≤ 1048576) (d : Nat) : ∀ (k i : Nat), 0 < i → l.length ≤ i + d → d < k → i ≤ 1048577 →
    ∃ r, impl_increasing.l0 k l i = some r ∧ (r = true ↔ ∀ j : Nat, i ≤ j → j < l.length → rd l ((j : Int) - 1) < rd l j) := by
  induction d with
  | zero =>
    intro k i hi hd hk hb
    obtain ⟨k, rfl⟩ : ∃ m, k = m + 1 := ⟨k - 1, by omega⟩
    exact ⟨true, by simp only [impl_increasing.l0]; rw [if_neg (by omega)], by simp; intro j h1 h2; omega⟩
  | succ d ih =>
    intro k i hi hd hk hb
    obtain ⟨k, rfl⟩ : ∃ m, k = m + 1 := ⟨k - 1, by omega⟩
    simp only [impl_increasing.l0]
    by_cases hlt : i < l.length
    · rw [if_pos (by omega), if_pos (by omega), wr (n := (i : Int) + 1) (by omega), wr (n := (i : Int) - 1) (by omega), show ((i : Int) + 1) = ((i + 1 : Nat) : Int) by omega, if_pos (by omega), if_pos (by omega)]
      obtain ⟨r, hr, hiff⟩ := ih k (i + 1) (by omega) (by omega) (by omega) (by omega)
      rw [hr]
      by_cases hr2 : rd l ((i : Int) - 1) < rd l i
      · refine ⟨r, by rw [if_neg (by omega)], ?_⟩
        rw [hiff]
        constructor
        · intro h j h1 h2
          by_cases e : j = i
          · subst e; exact hr2
          · exact h j (by omega) h2
        · intro h j h1 h2; exact h j (by omega) h2
      · refine ⟨false, by rw [if_pos (by omega)], ?_⟩
        simp only [Bool.false_eq_true, false_iff]
        intro h; exact hr2 (h i (by omega) hlt)
    · exact ⟨true, by rw [if_neg (by omega)], by simp; intro j h1 h2; omega⟩

theorem l03Scale_eq (k : Nat) (l : List Int) (hl : l.length ≤ 1048576) (hk : l.length < k) : spec_l03Scale.f k l = some (decide (Scale l)) := by
  unfold spec_l03Scale.f spec_l00Rises.f
  by_cases h5 : (l.length : Int) ≥ 5
  · obtain ⟨r, hr, hiff⟩ := rises_l0 l hl 0 11 l.length k 0 (by omega) hk
    simp only [Int.natCast_zero] at hr
    rw [if_pos h5, hr, Option.bind_some]
    by_cases h : r = true
    · rw [if_pos h, if_pos (by omega)]
      have hh := hiff.1 h
      congr 1; rw [Bool.eq_iff_iff, beq_iff_eq, decide_eq_true_iff]
      constructor
      · intro e
        refine ⟨by omega, e, fun j h2 h1 => (hh j (by omega) h2).2 h1, ?_⟩
        have := (hh (l.length - 1) (by omega) (by omega)).1.2
        rw [show ((l.length - 1 : Nat) : Int) = (l.length : Int) - 1 by omega] at this
        omega
      · intro e; exact e.2.1
    · rw [if_neg h]; congr 1; symm; rw [decide_eq_false_iff_not]
      intro e
      exact h (hiff.2 fun j _ h2 => ⟨e.range j h2, fun h1 => e.2.2.1 j h2 h1⟩)
  · rw [if_neg h5]; congr 1; symm; rw [decide_eq_false_iff_not]; intro e; exact h5 (by have := e.1; omega)

theorem ValidScale_eq (k : Nat) (l : List Int) (hl : l.length ≤ 1048576) (hk : l.length < k) : impl_ValidScale.f k l = some (decide (Scale l)) := by
  unfold impl_ValidScale.f impl_increasing.f
  by_cases h5 : (l.length : Int) ≥ 5
  · rw [if_pos h5, if_pos (by omega)]
    by_cases h0 : rd l 0 = 0
    · rw [if_pos h0]
      obtain ⟨r, hr, hiff⟩ := increasing_l0 l hl (l.length - 1) k 1 (by omega) (by omega) (by omega) (by omega)
      rw [show ((1 : Int)) = ((1 : Nat) : Int) by rfl, hr, Option.bind_some, show (((1 : Nat)) : Int) = 1 by rfl]
      by_cases h : r = true
      · rw [if_pos h, wr (n := (l.length : Int) - 1) (by omega), if_pos (by omega), if_pos (by omega)]
        congr 1; rw [Bool.eq_iff_iff, decide_eq_true_iff, decide_eq_true_iff]
        have hh := hiff.1 h
        constructor
        · intro e; exact ⟨by omega, h0, fun j h2 h1 => hh j (by omega) h2, e⟩
        · intro e; exact e.2.2.2
      · rw [if_neg h]; congr 1; symm; rw [decide_eq_false_iff_not]
        intro e; exact h (hiff.2 fun j h1 h2 => e.2.2.1 j h2 (by omega))
    · rw [if_neg h0]; congr 1; symm; rw [decide_eq_false_iff_not]; intro e; exact h0 e.2.1
  · rw [if_neg h5]; congr 1; symm; rw [decide_eq_false_iff_not]; intro e; exact h5 (by have := e.1; omega)

theorem bt_range (s : ByteArray) (i : Int) : 0 ≤ bt s i ∧ bt s i < 256 := by
  unfold bt
  split
  · constructor
    · omega
    · have := (s[i.toNat]'(by assumption)).toNat_lt; omega
  · omega

theorem bytes_nil (s : ByteArray) : s.toList = ([] : List UInt8) ↔ s.size = 0 := by
  rw [Go.ByteArray.toList_eq]
  have : s.data.toList.length = s.size := by cases s; rfl
  constructor
  · intro h; rw [h] at this; simpa using this.symm
  · intro h; exact List.length_eq_zero_iff.1 (by omega)

/-- A byte that a name may bear. -/
def nameB (c : Int) : Prop := (97 ≤ c ∧ c ≤ 122) ∨ (48 ≤ c ∧ c ≤ 57)
/-- A text that is a name. -/
def nameOk (s : ByteArray) : Prop := 1 ≤ s.size ∧ s.size ≤ 10 ∧ (97 ≤ bt s 0 ∧ bt s 0 ≤ 122) ∧ ∀ j : Nat, j < s.size → nameB (bt s j)

instance nameBDec (c : Int) : Decidable (nameB c) := by unfold nameB; infer_instance
instance nameOkDec (s : ByteArray) : Decidable (nameOk s) := by unfold nameOk; infer_instance
theorem small_eq (c : Int) : spec_l01Small.f c = some (decide (97 ≤ c ∧ c ≤ 122)) := by
  unfold spec_l01Small.f
  by_cases h : c ≥ 97 <;> simp [h]
theorem digit_eq (c : Int) : spec_l01Digit.f c = some (decide (48 ≤ c ∧ c ≤ 57)) := by
  unfold spec_l01Digit.f
  by_cases h : c ≥ 48 <;> simp [h]

theorem name_l0 (s : ByteArray) (hs : s.size ≤ 10) (d : Nat) : ∀ (k i : Nat), s.size = i + d → d < k →
    ∃ b, spec_l01Name.l0 k s i = some b ∧ (b = true ↔ ∀ j : Nat, i ≤ j → j < s.size → nameB (bt s j)) := by
  induction d with
  | zero =>
    intro k i hd hk
    obtain ⟨k, rfl⟩ : ∃ m, k = m + 1 := ⟨k - 1, by omega⟩
    exact ⟨true, by simp only [spec_l01Name.l0]; rw [if_neg (by omega)], by simp; intro j h1 h2; omega⟩
  | succ d ih =>
    intro k i hd hk
    obtain ⟨k, rfl⟩ : ∃ m, k = m + 1 := ⟨k - 1, by omega⟩
    simp only [spec_l01Name.l0]
    rw [if_pos (by omega), if_pos (by omega), small_eq, digit_eq, Option.bind_some, Option.bind_some, wr (n := (i : Int) + 1) (by omega)]
    obtain ⟨b, hb, hiff⟩ := ih k (i + 1) (by omega) (by omega)
    have hb' : spec_l01Name.l0 k s ((i : Int) + 1) = some b := by simpa using hb
    rw [hb']
    by_cases hc : nameB (bt s i)
    · refine ⟨b, ?_, ?_⟩
      · unfold nameB at hc
        rcases hc with hc | hc
        · simp [hc]
        · simp [hc]
      · rw [hiff]
        constructor
        · intro h j h1 h2
          by_cases e : j = i
          · subst e; exact hc
          · exact h j (by omega) h2
        · intro h j h1 h2; exact h j (by omega) h2
    · refine ⟨false, ?_, ?_⟩
      · unfold nameB at hc
        have c1 : ¬ (97 ≤ bt s i ∧ bt s i ≤ 122) := fun h => hc (Or.inl h)
        have c2 : ¬ (48 ≤ bt s i ∧ bt s i ≤ 57) := fun h => hc (Or.inr h)
        simp [c1, c2]
      · simp; exact ⟨i, by omega, by omega, hc⟩

theorem onlyName_l0 (s : ByteArray) (hs : s.size ≤ 10) (d : Nat) : ∀ (k i : Nat), s.size = i + d → d < k →
    ∃ b, impl_onlyNameBytes.l0 k s s.size i = some b ∧ (b = true ↔ ∀ j : Nat, i ≤ j → j < s.size → nameB (bt s j)) := by
  induction d with
  | zero =>
    intro k i hd hk
    obtain ⟨k, rfl⟩ : ∃ m, k = m + 1 := ⟨k - 1, by omega⟩
    exact ⟨true, by simp only [impl_onlyNameBytes.l0]; rw [if_neg (by omega)], by simp; intro j h1 h2; omega⟩
  | succ d ih =>
    intro k i hd hk
    obtain ⟨k, rfl⟩ : ∃ m, k = m + 1 := ⟨k - 1, by omega⟩
    simp only [impl_onlyNameBytes.l0]
    rw [if_pos (by omega), if_pos (by omega), if_pos (by omega), wr (n := (i : Int) + 1) (by omega)]
    obtain ⟨b, hb, hiff⟩ := ih k (i + 1) (by omega) (by omega)
    have hb' : impl_onlyNameBytes.l0 k s s.size ((i : Int) + 1) = some b := by simpa using hb
    rw [hb']
    by_cases hc : nameB (bt s i)
    · refine ⟨b, ?_, ?_⟩
      · unfold nameB at hc
        rcases hc with hc | hc
        · rw [if_neg (by omega), if_neg (by omega)]
        · rw [if_pos (by omega), if_neg (by omega), if_neg (by omega)]
      · rw [hiff]
        constructor
        · intro h j h1 h2
          by_cases e : j = i
          · subst e; exact hc
          · exact h j (by omega) h2
        · intro h j h1 h2; exact h j (by omega) h2
    · refine ⟨false, ?_, ?_⟩
      · unfold nameB at hc
        have c1 : ¬ (97 ≤ bt s i ∧ bt s i ≤ 122) := fun h => hc (Or.inl h)
        have c2 : ¬ (48 ≤ bt s i ∧ bt s i ≤ 57) := fun h => hc (Or.inr h)
        by_cases c3 : bt s i < 97
        · rw [if_pos c3]
          by_cases c4 : bt s i < 48
          · rw [if_pos c4]
          · rw [if_neg c4, if_pos (by omega)]
        · rw [if_neg c3, if_pos (by omega), if_neg (by omega), if_pos (by omega)]
      · simp; exact ⟨i, by omega, by omega, hc⟩

theorem l01Name_eq (k : Nat) (s : ByteArray) (hk : 20 < k) : spec_l01Name.f k s = some (decide (nameOk s)) := by
  have hj : ∀ (b : Bool), s.size ≤ 10 → ∃ r, spec_l01Name.j0 k s b = some r ∧ (r = true ↔ (b = false ∧ ∀ j : Nat, j < s.size → nameB (bt s j))) := by
    intro b hs
    obtain ⟨k, rfl⟩ : ∃ m, k = m + 1 := ⟨k - 1, by omega⟩
    obtain ⟨r, hr, hiff⟩ := name_l0 s hs s.size k 0 (by omega) (by omega)
    simp only [spec_l01Name.j0]
    cases b
    · exact ⟨r, by simpa using hr, by rw [hiff]; simp⟩
    · exact ⟨false, by simp, by simp⟩
  unfold spec_l01Name.f
  by_cases h0 : s.size = 0
  · rw [if_pos ((bytes_nil s).2 h0)]
    obtain ⟨r, hr, hiff⟩ := hj true (by omega)
    rw [hr]; congr 1; rw [Bool.eq_iff_iff, hiff]; simp [nameOk, h0]
  · rw [if_neg (fun h => h0 ((bytes_nil s).1 h))]
    by_cases h1 : (s.size : Int) > 10
    · rw [if_pos h1]
      obtain ⟨k, rfl⟩ : ∃ m, k = m + 1 := ⟨k - 1, by omega⟩
      simp only [spec_l01Name.j0]
      simp only [if_true]; congr 1; symm; rw [decide_eq_false_iff_not]; unfold nameOk; omega
    · rw [if_neg h1, if_pos (by omega), small_eq, Option.bind_some]
      obtain ⟨r, hr, hiff⟩ := hj (!decide (97 ≤ bt s 0 ∧ bt s 0 ≤ 122)) (by omega)
      rw [hr]; congr 1; rw [Bool.eq_iff_iff, hiff, decide_eq_true_iff]; unfold nameOk
      constructor
      · rintro ⟨a, b⟩; exact ⟨by omega, by omega, by simpa using a, b⟩
      · rintro ⟨a, b, c, d⟩; exact ⟨by simpa using c, d⟩

theorem IsName_eq (k : Nat) (s : ByteArray) (hk : 20 < k) : impl_IsName.f k s = some (decide (nameOk s)) := by
  unfold impl_IsName.f
  by_cases h0 : (s.size : Int) < 1
  · rw [if_pos h0]; congr 1; symm; rw [decide_eq_false_iff_not]; unfold nameOk; omega
  · rw [if_neg h0]
    by_cases h1 : (s.size : Int) > 10
    · rw [if_pos h1]; congr 1; symm; rw [decide_eq_false_iff_not]; unfold nameOk; omega
    · rw [if_neg h1, if_pos (by omega)]
      by_cases h2 : bt s 0 < 97
      · rw [if_pos h2]; congr 1; symm; rw [decide_eq_false_iff_not]; unfold nameOk; omega
      · rw [if_neg h2]
        by_cases h3 : bt s 0 > 122
        · rw [if_pos h3]; congr 1; symm; rw [decide_eq_false_iff_not]; unfold nameOk; omega
        · rw [if_neg h3]
          unfold impl_onlyNameBytes.f
          obtain ⟨r, hr, hiff⟩ := onlyName_l0 s (by omega) s.size k 0 (by omega) (by omega)
          have hr' : impl_onlyNameBytes.l0 k s s.size 0 = some r := by simpa using hr
          rw [hr', Option.bind_some]; congr 1; rw [Bool.eq_iff_iff, hiff, decide_eq_true_iff]; unfold nameOk
          constructor
          · intro a; exact ⟨by omega, by omega, by omega, fun j h => a j (by omega) h⟩
          · rintro ⟨a, b, c, d⟩ j _ h; exact d j h

theorem within_eq (a b c : Int) : impl_within.f a b c = some (decide (b ≤ a ∧ a ≤ c)) := by
  unfold impl_within.f
  by_cases h : a ≥ b <;> simp [h]

def PairOk (p : List Int) : Prop := p.length = 2 ∧ (0 ≤ rd p 0 ∧ rd p 0 ≤ 11) ∧ (0 ≤ rd p 1 ∧ rd p 1 ≤ 11) ∧ rd p 0 ≠ rd p 1
instance (p : List Int) : Decidable (PairOk p) := by unfold PairOk; infer_instance
theorem l05Pair_eq (p : List Int) : spec_l05Pair.f p = some (decide (PairOk p)) := by
  unfold spec_l05Pair.f PairOk
  by_cases h : p.length = 2
  · rw [if_pos (by omega), if_pos (by omega), l00In_eq, Option.bind_some]
    by_cases h0 : 0 ≤ rd p 0 ∧ rd p 0 ≤ 11
    · rw [if_pos (decide_eq_true h0), if_pos (by omega), l00In_eq, Option.bind_some]
      by_cases h1 : 0 ≤ rd p 1 ∧ rd p 1 ≤ 11
      · rw [if_pos (decide_eq_true h1)]
        by_cases h2 : rd p 0 = rd p 1
        · simp [h2]
        · simp [h2, h0, h1, h]
      · rw [if_neg (by simp; omega)]; simp [h1]
    · rw [if_neg (by simp; omega)]; simp [h0]
  · rw [if_neg (by omega)]; simp [h]
theorem cmp_eq (a b : Int) : cmp_Compare_int64.f a b = some (if a < b then -1 else if a > b then 1 else 0) := by
  unfold cmp_Compare_int64.f cmp_isNaN_int64.f
  simp only [Option.bind_some, bne_self_eq_false, Bool.false_eq_true, if_false]
  split
  · rfl
  · split <;> rfl
theorem compare2 (p q : List Int) (hp : p.length = 2) (hq : q.length = 2) (k : Nat) (hk : 4 < k) :
    slices_Compare_int64_int64.f k p q = some (if rd p 0 < rd q 0 then -1 else if rd p 0 > rd q 0 then 1 else if rd p 1 < rd q 1 then -1 else if rd p 1 > rd q 1 then 1 else 0) := by
  obtain ⟨k, rfl⟩ : ∃ m, k = m + 3 := ⟨k - 3, by omega⟩
  unfold slices_Compare_int64_int64.f
  simp only [slices_Compare_int64_int64.l0, hp, hq, cmp_eq, Option.bind_some]
  have w1 : wrap64 (0 + 1) = 1 := wr (by omega)
  have w2 : wrap64 (1 + 1) = 2 := wr (by omega)
  rw [w1, w2]
  by_cases h1 : rd p 0 < rd q 0
  · simp [h1]
  · by_cases h2 : rd p 0 > rd q 0
    · simp [h1, h2]
    · by_cases h3 : rd p 1 < rd q 1
      · simp [h1, h2, h3]
      · by_cases h4 : rd p 1 > rd q 1
        · simp [h1, h2, h3, h4]
        · simp [h1, h2, h3, h4]
theorem toneOk_eq (n : Int) : impl_toneOk.f n = some (decide (0 ≤ n ∧ n ≤ 11)) := by
  unfold impl_toneOk.f; rw [within_eq]; rfl
theorem pairs_l0 (f : List (List Int)) (hf : f.length ≤ 1048576) (a : ByteArray) (u v : List Int) (s t : Int) (d : Nat) : ∀ (i : Nat), f.length = i + d → (∀ j : Nat, j < i → PairOk (rd_L1 f j)) →
    ∃ r : Bool, (∀ k, d + 5 < k → spec_l05Pairs.l0 k f i = some (r && decide ((f.length : Int) ≤ 8)) ∧ impl_ValidRaga.l0 k f f.length i a u v s t f = some r) ∧ (r = true → ∀ j : Nat, j < f.length → PairOk (rd_L1 f j)) := by
  induction d with
  | zero =>
    intro i hd hi
    refine ⟨true, fun k hk => ?_, fun _ j hj => hi j (by omega)⟩
    obtain ⟨k, rfl⟩ : ∃ m, k = m + 1 := ⟨k - 1, by omega⟩
    simp only [spec_l05Pairs.l0, impl_ValidRaga.l0]
    rw [if_neg (by omega), if_neg (by omega)]; simp
  | succ d ih =>
    intro i hd hi
    have fals : (∀ k, d + 5 < k → spec_l05Pairs.l0 (k + 1) f i = some false ∧ impl_ValidRaga.l0 (k + 1) f f.length i a u v s t f = some false) →
        ∃ r : Bool, (∀ k, d + 1 + 5 < k → spec_l05Pairs.l0 k f i = some (r && decide ((f.length : Int) ≤ 8)) ∧ impl_ValidRaga.l0 k f f.length i a u v s t f = some r) ∧ (r = true → ∀ j : Nat, j < f.length → PairOk (rd_L1 f j)) := by
      intro h
      refine ⟨false, fun k hk => ?_, by simp⟩
      obtain ⟨k, rfl⟩ : ∃ m, k = m + 1 := ⟨k - 1, by omega⟩
      simpa using h k (by omega)
    have e1 : ((i : Int) + 1) = ((i + 1 : Nat) : Int) := by omega
    by_cases hp : PairOk (rd_L1 f i)
    · have hi' : ∀ j : Nat, j < i + 1 → PairOk (rd_L1 f j) := fun j hj => by
        by_cases e : j = i
        · subst e; exact hp
        · exact hi j (by omega)
      obtain ⟨r, hr, hr2⟩ := ih (i + 1) (by omega) hi'
      have next : (∀ k, d + 5 < k → spec_l05Pairs.l0 (k + 1) f i = spec_l05Pairs.l0 k f (i + 1 : Nat) ∧ impl_ValidRaga.l0 (k + 1) f f.length i a u v s t f = impl_ValidRaga.l0 k f f.length (i + 1 : Nat) a u v s t f) →
          ∃ r : Bool, (∀ k, d + 1 + 5 < k → spec_l05Pairs.l0 k f i = some (r && decide ((f.length : Int) ≤ 8)) ∧ impl_ValidRaga.l0 k f f.length i a u v s t f = some r) ∧ (r = true → ∀ j : Nat, j < f.length → PairOk (rd_L1 f j)) := by
        intro h
        refine ⟨r, fun k hk => ?_, hr2⟩
        obtain ⟨k, rfl⟩ : ∃ m, k = m + 1 := ⟨k - 1, by omega⟩
        rw [(h k (by omega)).1, (h k (by omega)).2]; exact hr k (by omega)
      have hp' := hp
      obtain ⟨p1, p2, p3, p4⟩ := hp'
      by_cases h0 : i = 0
      · apply next
        intro k hk
        simp only [spec_l05Pairs.l0, impl_ValidRaga.l0]
        rw [if_pos (by omega), if_pos (by omega), l05Pair_eq, Option.bind_some, if_pos (decide_eq_true hp), if_neg (by omega), if_pos (by omega), if_pos (by omega), if_pos (by omega), if_pos (by omega), if_pos (by omega), toneOk_eq, Option.bind_some, if_pos (decide_eq_true p2), if_pos (by omega), toneOk_eq, Option.bind_some, if_pos (decide_eq_true p3), if_neg p4, if_neg (by omega), wr (n := (i : Int) + 1) (by omega), e1]
        exact ⟨rfl, rfl⟩
      · obtain ⟨q1, q2, q3, q4⟩ := hi (i - 1) (by omega)
        have e2 : wrap64 ((i : Int) - 1) = ((i - 1 : Nat) : Int) := by rw [wr (by omega)]; omega
        generalize hq : rd_L1 f ((i - 1 : Nat) : Int) = q at q1 q2 q3 q4
        generalize hc : rd_L1 f (i : Int) = p at hp p1 p2 p3 p4
        have hcmp : ∀ k, d + 5 < k → slices_Compare_int64_int64.f k q p = some (if rd q 0 < rd p 0 then -1 else if rd q 0 > rd p 0 then 1 else if rd q 1 < rd p 1 then -1 else if rd q 1 > rd p 1 then 1 else 0) := fun k hk => compare2 q p q1 p1 k (by omega)
        by_cases c1 : rd q 0 < rd p 0
        · apply next
          intro k hk
          simp only [spec_l05Pairs.l0, impl_ValidRaga.l0, hc, e2, hq]
          rw [if_pos (by omega), if_pos (by omega), l05Pair_eq, Option.bind_some, if_pos (decide_eq_true hp), if_pos (by omega), if_pos (by omega), if_pos (by omega), if_pos (by omega), if_pos (by omega), if_neg (by omega), if_neg (by omega), if_pos (by omega), if_pos (by omega), if_pos (by omega), if_pos (by omega), if_pos (by omega), toneOk_eq, Option.bind_some, if_pos (decide_eq_true p2), if_pos (by omega), toneOk_eq, Option.bind_some, if_pos (decide_eq_true p3), if_neg p4, if_pos (by omega), if_pos (by omega), if_pos (by omega), hcmp k hk, Option.bind_some, if_pos c1, if_neg (by omega), wr (n := (i : Int) + 1) (by omega), e1]
          exact ⟨rfl, rfl⟩
        · by_cases c2 : rd q 0 > rd p 0
          · apply fals
            intro k hk
            simp only [spec_l05Pairs.l0, impl_ValidRaga.l0, hc, e2, hq]
            rw [if_pos (by omega), if_pos (by omega), l05Pair_eq, Option.bind_some, if_pos (decide_eq_true hp), if_pos (by omega), if_pos (by omega), if_pos (by omega), if_pos (by omega), if_pos (by omega), if_pos (by omega), if_pos (by omega), if_pos (by omega), if_pos (by omega), if_pos (by omega), if_pos (by omega), toneOk_eq, Option.bind_some, if_pos (decide_eq_true p2), if_pos (by omega), toneOk_eq, Option.bind_some, if_pos (decide_eq_true p3), if_neg p4, if_pos (by omega), if_pos (by omega), if_pos (by omega), hcmp k hk, Option.bind_some, if_neg c1, if_pos c2, if_pos (by omega)]
            exact ⟨rfl, rfl⟩
          · by_cases c3 : rd q 1 < rd p 1
            · apply next
              intro k hk
              simp only [spec_l05Pairs.l0, impl_ValidRaga.l0, hc, e2, hq]
              rw [if_pos (by omega), if_pos (by omega), l05Pair_eq, Option.bind_some, if_pos (decide_eq_true hp), if_pos (by omega), if_pos (by omega), if_pos (by omega), if_pos (by omega), if_pos (by omega), if_neg (by omega), if_pos (by omega), if_pos (by omega), if_pos (by omega), if_neg (by omega), if_pos (by omega), if_pos (by omega), if_pos (by omega), if_pos (by omega), if_pos (by omega), toneOk_eq, Option.bind_some, if_pos (decide_eq_true p2), if_pos (by omega), toneOk_eq, Option.bind_some, if_pos (decide_eq_true p3), if_neg p4, if_pos (by omega), if_pos (by omega), if_pos (by omega), hcmp k hk, Option.bind_some, if_neg c1, if_neg c2, if_pos c3, if_neg (by omega), wr (n := (i : Int) + 1) (by omega), e1]
              exact ⟨rfl, rfl⟩
            · apply fals
              intro k hk
              simp only [spec_l05Pairs.l0, impl_ValidRaga.l0, hc, e2, hq]
              rw [if_pos (by omega), if_pos (by omega), l05Pair_eq, Option.bind_some, if_pos (decide_eq_true hp), if_pos (by omega), if_pos (by omega), if_pos (by omega), if_pos (by omega), if_pos (by omega), if_neg (by omega), if_pos (by omega), if_pos (by omega), if_pos (by omega), if_pos (by omega), if_pos (by omega), if_pos (by omega), if_pos (by omega), if_pos (by omega), if_pos (by omega), toneOk_eq, Option.bind_some, if_pos (decide_eq_true p2), if_pos (by omega), toneOk_eq, Option.bind_some, if_pos (decide_eq_true p3), if_neg p4, if_pos (by omega), if_pos (by omega), if_pos (by omega), hcmp k hk, Option.bind_some, if_neg c1, if_neg c2, if_neg c3, if_pos (by split <;> omega)]
              exact ⟨rfl, rfl⟩
    · apply fals
      intro k hk
      simp only [spec_l05Pairs.l0, impl_ValidRaga.l0]
      rw [if_pos (by omega), if_pos (by omega), l05Pair_eq, Option.bind_some, if_neg (by simpa using hp), if_pos (by omega), if_pos (by omega), if_pos (by omega)]
      refine ⟨rfl, ?_⟩
      by_cases h1 : (rd_L1 f i).length = 2
      · rw [if_pos (by omega), if_pos (by omega), toneOk_eq, Option.bind_some]
        by_cases h2 : 0 ≤ rd (rd_L1 f i) 0 ∧ rd (rd_L1 f i) 0 ≤ 11
        · rw [if_pos (decide_eq_true h2), if_pos (by omega), toneOk_eq, Option.bind_some]
          by_cases h3 : 0 ≤ rd (rd_L1 f i) 1 ∧ rd (rd_L1 f i) 1 ≤ 11
          · rw [if_pos (decide_eq_true h3)]
            by_cases h4 : rd (rd_L1 f i) 0 = rd (rd_L1 f i) 1
            · rw [if_pos h4]
            · exact absurd ⟨h1, h2, h3, h4⟩ hp
          · rw [if_neg (by simpa using h3)]
        · rw [if_neg (by simpa using h2)]
      · rw [if_neg (by omega)]
theorem tone_eq (a : ByteArray) (u v : List Int) (s t : Int) (f : List (List Int)) (n : Int) (hu : u.length ≤ 1048576) (hv : v.length ≤ 1048576) :
    ∃ r : Bool, (∀ k, 1048576 < k → spec_l05Tone.f k a u v s t f n = some r ∧ impl_Raga_hasTone.f k a u v s t f n = some r) ∧ (r = true → (∃ j : Nat, j < u.length ∧ rd u j = n) ∨ ∃ j : Nat, j < v.length ∧ rd v j = n) := by
  obtain ⟨r1, h1, p1⟩ := has_eq u n hu
  obtain ⟨r2, h2, p2⟩ := has_eq v n hv
  refine ⟨r1 || r2, fun k hk => ?_, fun h => ?_⟩
  · unfold spec_l05Tone.f impl_Raga_hasTone.f
    rw [(h1 k (by omega)).1, (h1 k (by omega)).2, (h2 k (by omega)).1, (h2 k (by omega)).2]
    cases r1 <;> simp
  · cases r1 with
    | true => exact .inl (p1 rfl)
    | false => exact .inr (p2 (by simpa using h))
/-- What is known of a valid raga. -/
structure Good (u v : List Int) (s t : Int) (f : List (List Int)) : Prop where
  up : Scale u
  down : Scale v
  strong : 0 ≤ s ∧ s ≤ 11
  weak : 0 ≤ t ∧ t ≤ 11
  many : f.length ≤ 8
  pairs : ∀ j : Nat, j < f.length → PairOk (rd_L1 f j)
theorem valid_eq (a : ByteArray) (u v : List Int) (s t : Int) (f : List (List Int)) (h : Small u v f) :
    ∃ r : Bool, (∀ k, 3000000 < k → spec_l05Ok.f k a u v s t f = some r ∧ impl_ValidRaga.f k a u v s t f = some r) ∧ (r = true → Good u v s t f) := by
  obtain ⟨hu, hv, hf, _⟩ := h
  have fals : (∀ k, 3000000 < k + 1 → spec_l05Ok.f (k + 1) a u v s t f = some false ∧ impl_ValidRaga.f (k + 1) a u v s t f = some false) →
      ∃ r : Bool, (∀ k, 3000000 < k → spec_l05Ok.f k a u v s t f = some r ∧ impl_ValidRaga.f k a u v s t f = some r) ∧ (r = true → Good u v s t f) := fun h => by
    refine ⟨false, fun k hk => ?_, by simp⟩
    obtain ⟨k, rfl⟩ : ∃ m, k = m + 1 := ⟨k - 1, by omega⟩
    exact h k hk
  unfold spec_l05Ok.f impl_ValidRaga.f at *
  by_cases h1 : nameOk a
  · by_cases h2 : Scale u
    · by_cases h3 : Scale v
      · obtain ⟨r1, t1, g1⟩ := tone_eq a u v s t f s hu hv
        obtain ⟨r2, t2, g2⟩ := tone_eq a u v s t f t hu hv
        by_cases h4 : s = t
        · apply fals
          intro k hk
          rw [l01Name_eq _ a (by omega), IsName_eq _ a (by omega), l03Scale_eq _ u hu (by omega), ValidScale_eq _ u hu (by omega), l03Scale_eq _ v hv (by omega), ValidScale_eq _ v hv (by omega), (t1 _ (by omega)).1, (t2 _ (by omega)).1]
          simp only [Option.bind_some, decide_eq_true h1, decide_eq_true h2, decide_eq_true h3, if_true, if_pos h4, impl_ValidRaga.j0]
          cases r1 <;> cases r2 <;> simp
        · cases r1 with
          | false =>
            apply fals
            intro k hk
            rw [l01Name_eq _ a (by omega), IsName_eq _ a (by omega), l03Scale_eq _ u hu (by omega), ValidScale_eq _ u hu (by omega), l03Scale_eq _ v hv (by omega), ValidScale_eq _ v hv (by omega), (t1 _ (by omega)).1, (t1 _ (by omega)).2]
            simp [h1, h2, h3, h4, impl_ValidRaga.j0]
          | true =>
            cases r2 with
            | false =>
              apply fals
              intro k hk
              rw [l01Name_eq _ a (by omega), IsName_eq _ a (by omega), l03Scale_eq _ u hu (by omega), ValidScale_eq _ u hu (by omega), l03Scale_eq _ v hv (by omega), ValidScale_eq _ v hv (by omega), (t1 _ (by omega)).1, (t1 _ (by omega)).2, (t2 _ (by omega)).1, (t2 _ (by omega)).2]
              simp [h1, h2, h3, h4, impl_ValidRaga.j0]
            | true =>
              obtain ⟨r, hr, hg⟩ := pairs_l0 f hf a u v s t f.length 0 (by omega) (by omega)
              have rng : ∀ n : Int, ((∃ j : Nat, j < u.length ∧ rd u j = n) ∨ ∃ j : Nat, j < v.length ∧ rd v j = n) → 0 ≤ n ∧ n ≤ 11 := by
                rintro n (⟨j, hj, rfl⟩ | ⟨j, hj, rfl⟩)
                · exact h2.range j hj
                · exact h3.range j hj
              refine ⟨r && decide ((f.length : Int) ≤ 8), fun k hk => ?_, fun h => ?_⟩
              · obtain ⟨k, rfl⟩ : ∃ m, k = m + 1 := ⟨k - 1, by omega⟩
                have e1 := (hr (k + 1) (by omega)).1
                have e2 := (hr k (by omega)).2
                simp only [Int.natCast_zero] at e1 e2
                rw [l01Name_eq _ a (by omega), IsName_eq _ a (by omega), l03Scale_eq _ u hu (by omega), ValidScale_eq _ u hu (by omega), l03Scale_eq _ v hv (by omega), ValidScale_eq _ v hv (by omega), (t1 _ (by omega)).1, (t1 _ (by omega)).2, (t2 _ (by omega)).1, (t2 _ (by omega)).2]
                simp only [Option.bind_some, decide_eq_true h1, decide_eq_true h2, decide_eq_true h3, if_true, if_neg h4, impl_ValidRaga.j0, spec_l05Pairs.f]
                rw [e1, e2]
                by_cases h8 : (f.length : Int) ≤ 8
                · have : ¬ (f.length : Int) > 8 := by omega
                  simp [h8, this]
                · have : (f.length : Int) > 8 := by omega
                  simp [h8, this]
              · simp only [Bool.and_eq_true, decide_eq_true_eq] at h
                exact ⟨h2, h3, rng s (g1 rfl), rng t (g2 rfl), by omega, hg h.1⟩
      · apply fals
        intro k hk
        rw [l01Name_eq _ a (by omega), IsName_eq _ a (by omega), l03Scale_eq _ u hu (by omega), ValidScale_eq _ u hu (by omega), l03Scale_eq _ v hv (by omega), ValidScale_eq _ v hv (by omega)]
        simp [h1, h2, h3, impl_ValidRaga.j0]
    · apply fals
      intro k hk
      rw [l01Name_eq _ a (by omega), IsName_eq _ a (by omega), l03Scale_eq _ u hu (by omega), ValidScale_eq _ u hu (by omega)]
      simp [h1, h2, impl_ValidRaga.j0]
  · apply fals
    intro k hk
    rw [l01Name_eq _ a (by omega), IsName_eq _ a (by omega)]
    simp [h1, impl_ValidRaga.j0]

/-- The numbers from m on, n of them. -/
def seqI : Nat → Int → List Int
  | 0, _ => []
  | n + 1, m => m :: seqI n (m + 1)
theorem seqI_length (n : Nat) : ∀ m, (seqI n m).length = n := by
  induction n with
  | zero => intro m; rfl
  | succ n ih => intro m; simp [seqI, ih]
theorem mark_l0 (d : Nat) : ∀ (k i : Nat) (m : Int) (pre post : List Int), pre.length = i → post.length = d → i + d ≤ 1048576 → 0 ≤ m → m + d ≤ 2000000 → d < k →
    laws_markInt64S.l0 k (pre ++ post) m i = some (m + d, pre ++ seqI d m) := by
  induction d with
  | zero =>
    intro k i m pre post h2 h3 h4 h5 h6 hk
    obtain ⟨k, rfl⟩ : ∃ m, k = m + 1 := ⟨k - 1, by omega⟩
    obtain rfl := List.length_eq_zero_iff.1 h3
    simp only [laws_markInt64S.l0]; rw [if_neg (by simp; omega)]; simp [seqI]
  | succ d ih =>
    intro k i m pre post h2 h3 h4 h5 h6 hk
    obtain ⟨k, rfl⟩ : ∃ m, k = m + 1 := ⟨k - 1, by omega⟩
    cases post with
    | nil => simp at h3
    | cons x post =>
      have hp : post.length = d := by simpa using h3
      have hlen : (pre ++ x :: post).length = i + d + 1 := by simp; omega
      simp only [laws_markInt64S.l0]
      rw [if_pos (by omega), if_pos (by omega), wr (n := m + 1) (by omega), wr (n := (i : Int) + 1) (by omega), Int.toNat_natCast, List.set_append_right _ _ (by omega), h2, Nat.sub_self, List.set_cons_zero, show ((i : Int) + 1) = ((i + 1 : Nat) : Int) by omega]
      have := ih k (i + 1) (m + 1) (pre ++ [m]) post (by simp [h2]) hp (by omega) (by omega) (by omega) (by omega)
      rw [List.append_assoc] at this
      rw [show m :: post = [m] ++ post from rfl, this]
      congr 2
      · omega
      · simp [seqI]
theorem mark_eq (k : Nat) (l : List Int) (hl : l.length ≤ 1048576) (hk : l.length < k) : laws_markInt64S.f k l 1 = some (1 + (l.length : Int), seqI l.length 1) := by
  unfold laws_markInt64S.f
  have := mark_l0 l.length k 0 1 [] l rfl rfl (by omega) (by omega) (by omega) hk
  simpa using this
theorem held_l0 (d : Nat) : ∀ (k i : Nat) (m : Int) (pre : List Int), pre.length = i → i + d ≤ 1048576 → 0 ≤ m → m + d ≤ 2000000 → d < k →
    laws_heldInt64S.l0 k (pre ++ seqI d m) m i = some (m + d) := by
  induction d with
  | zero =>
    intro k i m pre h2 h4 h5 h6 hk
    obtain ⟨k, rfl⟩ : ∃ m, k = m + 1 := ⟨k - 1, by omega⟩
    have hl : (pre ++ seqI 0 m).length = i := by simp [seqI, h2]
    simp only [laws_heldInt64S.l0]; rw [if_neg (by omega)]; simp
  | succ d ih =>
    intro k i m pre h2 h4 h5 h6 hk
    obtain ⟨k, rfl⟩ : ∃ m, k = m + 1 := ⟨k - 1, by omega⟩
    have hlen : (pre ++ seqI (d + 1) m).length = i + d + 1 := by rw [List.length_append, seqI_length]; omega
    have hr : rd (pre ++ seqI (d + 1) m) i = m := by
      unfold rd
      rw [Int.toNat_natCast, List.getD_eq_getElem?_getD, List.getElem?_append_right (by omega), h2, Nat.sub_self]
      rfl
    simp only [laws_heldInt64S.l0]
    rw [if_pos (by omega), if_pos (by omega), if_pos hr, wr (n := m + 1) (by omega), wr (n := (i : Int) + 1) (by omega), show ((i : Int) + 1) = ((i + 1 : Nat) : Int) by omega]
    have := ih k (i + 1) (m + 1) (pre ++ [m]) (by simp [h2]) (by omega) (by omega) (by omega) (by omega)
    rw [List.append_assoc] at this
    rw [show seqI (d + 1) m = [m] ++ seqI d (m + 1) from rfl, this]
    congr 1; omega
theorem held_eq (k n : Nat) (hl : n ≤ 1048576) (hk : n < k) : laws_heldInt64S.f k (seqI n 1) 1 = some (1 + (n : Int)) := by
  unfold laws_heldInt64S.f
  have := held_l0 n k 0 1 [] rfl (by omega) (by omega) (by omega) hk
  simpa using this

theorem mark2_l0 (d : Nat) : ∀ (k i : Nat) (m : Int) (pre post : List Int), pre.length = i → post.length = d → i + d ≤ 1048576 → 0 ≤ m → m + d ≤ 4611686018427387904 → d < k →
    laws_markInt64S.l0 k (pre ++ post) m i = some (m + d, pre ++ seqI d m) := by
  induction d with
  | zero =>
    intro k i m pre post h2 h3 h4 h5 h6 hk
    obtain ⟨k, rfl⟩ : ∃ m, k = m + 1 := ⟨k - 1, by omega⟩
    obtain rfl := List.length_eq_zero_iff.1 h3
    simp only [laws_markInt64S.l0]; rw [if_neg (by simp; omega)]; simp [seqI]
  | succ d ih =>
    intro k i m pre post h2 h3 h4 h5 h6 hk
    obtain ⟨k, rfl⟩ : ∃ m, k = m + 1 := ⟨k - 1, by omega⟩
    cases post with
    | nil => simp at h3
    | cons x post =>
      have hp : post.length = d := by simpa using h3
      have hlen : (pre ++ x :: post).length = i + d + 1 := by simp; omega
      simp only [laws_markInt64S.l0]
      rw [if_pos (by omega), if_pos (by omega), wr (n := m + 1) (by omega), wr (n := (i : Int) + 1) (by omega), Int.toNat_natCast, List.set_append_right _ _ (by omega), h2, Nat.sub_self, List.set_cons_zero, show ((i : Int) + 1) = ((i + 1 : Nat) : Int) by omega]
      have := ih k (i + 1) (m + 1) (pre ++ [m]) post (by simp [h2]) hp (by omega) (by omega) (by omega) (by omega)
      rw [List.append_assoc] at this
      rw [show m :: post = [m] ++ post from rfl, this]
      congr 2
      · omega
      · simp [seqI]
theorem mark2_eq (k : Nat) (l : List Int) (m : Int) (hl : l.length ≤ 1048576) (h0 : 0 ≤ m) (hm : m ≤ 4000000000000) (hk : l.length < k) : laws_markInt64S.f k l m = some (m + (l.length : Int), seqI l.length m) := by
  unfold laws_markInt64S.f
  have := mark2_l0 l.length k 0 m [] l rfl rfl (by omega) h0 (by omega) hk
  simpa using this
theorem markSS_l0 (l : List (List Int)) (hl : l.length ≤ 1048576) (hn : ∀ j : Nat, j < l.length → (rd_L1 l j).length ≤ 1048576) (d : Nat) : ∀ (i : Nat) (m : Int), l.length = i + d → 0 ≤ m → m + d * 1048576 ≤ 4000000000000 →
    ∃ r, 0 ≤ r ∧ ∀ k, d + 1048577 < k → laws_markInt64SS.l0 k l m i = some r := by
  induction d with
  | zero =>
    intro i m hd h0 hm
    refine ⟨m, h0, fun k hk => ?_⟩
    obtain ⟨k, rfl⟩ : ∃ m, k = m + 1 := ⟨k - 1, by omega⟩
    simp only [laws_markInt64SS.l0]; rw [if_neg (by omega)]
  | succ d ih =>
    intro i m hd h0 hm
    have hp := hn i (by omega)
    obtain ⟨r, hr, h⟩ := ih (i + 1) (m + ((rd_L1 l i).length : Int)) (by omega) (by omega) (by omega)
    refine ⟨r, hr, fun k hk => ?_⟩
    obtain ⟨k, rfl⟩ : ∃ m, k = m + 1 := ⟨k - 1, by omega⟩
    simp only [laws_markInt64SS.l0]
    rw [if_pos (by omega), if_pos (by omega), mark2_eq k _ m hp h0 (by omega) (by omega), Option.bind_some, wr (n := (i : Int) + 1) (by omega), show ((i : Int) + 1) = ((i + 1 : Nat) : Int) by omega]
    exact h k (by omega)
theorem markRaga_eq (u v : List Int) (f : List (List Int)) (hs : Small u v f) : ∃ m, 0 ≤ m ∧ ∀ k, 3000000 < k → laws_markRaga.f k u v f 1 = some m := by
  obtain ⟨hu, hv, hf, hn⟩ := hs
  obtain ⟨m, h0, h⟩ := markSS_l0 f hf hn f.length 0 (1 + (u.length : Int) + (v.length : Int)) (by omega) (by omega) (by omega)
  refine ⟨m, h0, fun k hk => ?_⟩
  unfold laws_markRaga.f
  rw [mark2_eq k u 1 hu (by omega) (by omega) (by omega), Option.bind_some, mark2_eq k v _ hv (by omega) (by omega) (by omega), Option.bind_some]
  exact h k (by omega)

theorem tones_l0 (a : ByteArray) (u v : List Int) (s t : Int) (f : List (List Int)) (hu : u.length ≤ 1048576) (hv : v.length ≤ 1048576) (d : Nat) : ∀ (i : Nat) (z : List Int), 12 = i + d → z.length ≤ i →
    ∃ r, r.length ≤ 12 ∧ ∀ k, 1048576 + d < k → spec_l05Tones.l0 k z i a u v s t f = some r ∧ impl_TonesOf.l0 k z i a u v s t f = some (r, 0) := by
  induction d with
  | zero =>
    intro i z hd hz
    refine ⟨z, by omega, fun k hk => ?_⟩
    obtain ⟨k, rfl⟩ : ∃ m, k = m + 1 := ⟨k - 1, by omega⟩
    have e : ¬ (i : Int) < 12 := by omega
    simp only [spec_l05Tones.l0, impl_TonesOf.l0]
    rw [if_neg e, if_neg e]; exact ⟨rfl, rfl⟩
  | succ d ih =>
    intro i z hd hz
    have e : (i : Int) < 12 := by omega
    have ew : wrap64 ((i : Int) + 1) = ((i + 1 : Nat) : Int) := by rw [wr (n := (i : Int) + 1) (by omega)]; omega
    obtain ⟨b, hb, _⟩ := tone_eq a u v s t f i hu hv
    cases b with
    | false =>
      obtain ⟨r, hl, hr⟩ := ih (i + 1) z (by omega) (by omega)
      refine ⟨r, hl, fun k hk => ?_⟩
      obtain ⟨k, rfl⟩ : ∃ m, k = m + 1 := ⟨k - 1, by omega⟩
      simp only [spec_l05Tones.l0, impl_TonesOf.l0]
      rw [if_pos e, if_pos e, (hb k (by omega)).1, (hb k (by omega)).2, ew]
      simp only [Option.bind_some, Bool.false_eq_true, if_false]
      exact hr k (by omega)
    | true =>
      obtain ⟨r, hl, hr⟩ := ih (i + 1) (z ++ [(i : Int)]) (by omega) (by simp; omega)
      refine ⟨r, hl, fun k hk => ?_⟩
      obtain ⟨k, rfl⟩ : ∃ m, k = m + 1 := ⟨k - 1, by omega⟩
      have q : z.length < 17592186044416 := by omega
      simp only [spec_l05Tones.l0, impl_TonesOf.l0]
      rw [if_pos e, if_pos e, (hb k (by omega)).1, (hb k (by omega)).2, ew]
      simp only [Option.bind_some, if_true, if_pos q]
      exact hr k (by omega)
theorem tonesOf_eq (a : ByteArray) (u v : List Int) (s t : Int) (f : List (List Int)) (hs : Small u v f) :
    ∃ r : List Int × Int, r.1.length ≤ 1048576 ∧ ∀ k, 3000000 < k → spec_TonesOf.f k a u v s t f = some r ∧ impl_TonesOf.f k a u v s t f = some r := by
  obtain ⟨r, hr, _⟩ := valid_eq a u v s t f hs
  unfold spec_TonesOf.f impl_TonesOf.f
  cases r with
  | false => exact ⟨([], 1), by simp, fun k hk => by rw [(hr k (by omega)).1, (hr k (by omega)).2]; exact ⟨rfl, rfl⟩⟩
  | true =>
    obtain ⟨l, hl, h⟩ := tones_l0 a u v s t f hs.1 hs.2.1 12 0 [] (by omega) (by simp)
    simp only [Int.natCast_zero] at h
    refine ⟨(l, 0), by dsimp only; omega, fun k hk => ?_⟩
    rw [(hr k (by omega)).1, (hr k (by omega)).2]
    simp only [Option.bind_some, if_true, spec_l05Tones.f, (h k (by omega)).1, (h k (by omega)).2]
    exact ⟨trivial, trivial⟩
theorem FnExactTonesOf : laws_FnExactTonesOf.Pure := by
  intro a u v s t f ha hu hv _ _ hf hn
  refine ⟨4000000, ?_⟩
  obtain ⟨z, h1, h2⟩ := szRaga_eq a u v s t f 1048576 ha hu hv hf hn (by omega)
  unfold laws_FnExactTonesOf.f
  rw [h1 _ (by omega), Option.bind_some]
  rcases h2 with h2 | ⟨h3, _, h4, h5, h6, h7⟩
  · rw [if_pos h2]
  · have hs : Small u v f := ⟨h4, h5, h6, h7⟩
    obtain ⟨⟨r1, r2⟩, hl, hr⟩ := tonesOf_eq a u v s t f hs
    obtain ⟨m, hm0, hm⟩ := markRaga_eq u v f hs
    dsimp only at hl
    rw [if_neg (by omega), toRaga_eq _ a u v s t f hs (by omega), Option.bind_some]
    dsimp only
    rw [(hr _ (by omega)).1, Option.bind_some, (hr _ (by omega)).2, Option.bind_some, if_pos rfl, eqInts_self _ r1 hl (by omega), Option.bind_some, if_pos rfl, eqRaga_self _ a u v s t f hs (by omega), Option.bind_some, if_pos rfl, hm _ (by omega), Option.bind_some, if_pos hm0, mark_eq _ r1 hl (by omega), Option.bind_some, held_eq _ _ hl (by omega), Option.bind_some, if_pos ⟨rfl, by omega⟩]

end Go.Proofs.Ytglamjckdodeoaa.Pure
