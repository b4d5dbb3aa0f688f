/- Proved: the plain statement of the law FnExactSameRaga: the program's function and the reference's give the same answer. Conditions: none beyond the statement's own. -/
import Derived.Test.YtglamjckdodeoaaStmFnExactSameRaga
namespace Go.Proofs.Ytglamjckdodeoaa.Pure
open Go.RowKit Go.Proofs.Ytglamjckdodeoaa.PFnExactSameRaga Go.Proofs.YtglamjckdodeoaaW.PrintWords Go.Proofs.YtglamjckdodeoaaW.PrintLast
set_option linter.unusedVariables false
set_option linter.unusedSimpArgs false

theorem wr {n : Int} (h : -9223372036854775808 ≤ n ∧ n ≤ 9223372036854775807) : wrap64 n = n := by unfold wrap64; omega

theorem set_take_step (l m : List Int) (i : Nat) (hi : i < l.length) (hm : m = l.take i ++ List.replicate (l.length - i) 0) :
    m.set i (rd l i) = l.take (i + 1) ++ List.replicate (l.length - (i + 1)) 0 := by
  subst hm
  have e : rd l i = l[i] := by unfold rd; simp [List.getD_eq_getElem?_getD, hi]
  have h1 : (l.take i).length = i := by simp; omega
  have : l.length - i = (l.length - (i + 1)) + 1 := by omega
  rw [e, List.take_succ_eq_append_getElem hi, this, List.replicate_succ, List.set_append_right _ _ (by omega), h1, Nat.sub_self, List.set_cons_zero, List.append_assoc]
  rfl
theorem toInts_l0 (l : List Int) (hl : l.length ≤ 1048576) (d : Nat) : ∀ (k i : Nat) (m : List Int), l.length = i + d → d < k →
    m = l.take i ++ List.replicate (l.length - i) 0 → laws_toInt64S.l0 k l m i = some l := by
  induction d with
  | zero =>
    intro k i m hd hk hm
    obtain ⟨k, rfl⟩ : ∃ m, k = m + 1 := ⟨k - 1, by omega⟩
    simp only [laws_toInt64S.l0]; rw [if_neg (by omega), hm, show l.length - i = 0 by omega, List.take_of_length_le (by omega)]; simp
  | succ d ih =>
    intro k i m hd hk hm
    obtain ⟨k, rfl⟩ : ∃ m, k = m + 1 := ⟨k - 1, by omega⟩
    have hml : m.length = l.length := by subst hm; simp; omega
    simp only [laws_toInt64S.l0]
    rw [if_pos (by omega), if_pos (by omega), if_pos (by omega), wr (n := (i : Int) + 1) (by omega), show ((i : Int) + 1) = ((i + 1 : Nat) : Int) by omega]
    apply ih k (i + 1) _ (by omega) (by omega)
    rw [Int.toNat_natCast]
    exact set_take_step l m i (by omega) hm
theorem toInts_eq (k : Nat) (l : List Int) (hl : l.length ≤ 1048576) (hk : l.length < k) : laws_toInt64S.f k l = some l := by
  unfold laws_toInt64S.f
  rw [if_pos (by omega), if_pos (by omega)]
  exact toInts_l0 l hl l.length k 0 _ (by omega) hk (by simp)

theorem eqInts_l0 (a b : List Int) (hl : a.length ≤ 1048576) (he : a.length = b.length) (d : Nat) : ∀ (k i : Nat), a.length = i + d → d < k →
    ∃ r, laws_eqInt64S.l0 k a b i = some r ∧ (r = true ↔ ∀ j : Nat, i ≤ j → j < a.length → rd a j = rd b j) := by
  induction d with
  | zero =>
    intro k i hd hk
    obtain ⟨k, rfl⟩ : ∃ m, k = m + 1 := ⟨k - 1, by omega⟩
    exact ⟨true, by simp only [laws_eqInt64S.l0]; rw [if_neg (by omega)], by simp; intro j h1 h2; omega⟩
  | succ d ih =>
    intro k i hd hk
    obtain ⟨k, rfl⟩ : ∃ m, k = m + 1 := ⟨k - 1, by omega⟩
    simp only [laws_eqInt64S.l0]
    rw [if_pos (by omega), if_pos (by omega), if_pos (by omega), wr (n := (i : Int) + 1) (by omega), show ((i : Int) + 1) = ((i + 1 : Nat) : Int) by omega]
    obtain ⟨r, hr, hiff⟩ := ih k (i + 1) (by omega) (by omega)
    by_cases hc : rd a i = rd b i
    · refine ⟨r, by rw [if_pos hc, hr], ?_⟩
      rw [hiff]
      constructor
      · intro h j h1 h2
        by_cases e : j = i
        · subst e; exact hc
        · exact h j (by omega) h2
      · intro h j h1 h2; exact h j (by omega) h2
    · exact ⟨false, by rw [if_neg hc], by simp; exact ⟨i, by omega, by omega, hc⟩⟩
theorem rd_nat (l : List Int) (j : Nat) : rd l j = l.getD j 0 := rfl
theorem rd_lt (l : List Int) (j : Nat) (h : j < l.length) : rd l j = l[j] := by rw [rd_nat]; simp [List.getD_eq_getElem?_getD, h]
theorem eqInts_eq (k : Nat) (a b : List Int) (hl : a.length ≤ 1048576) (hk : a.length < k) : laws_eqInt64S.f k a b = some (decide (a = b)) := by
  unfold laws_eqInt64S.f
  by_cases h : (a.length : Int) = (b.length : Int)
  · rw [if_pos h]
    obtain ⟨r, hr, hiff⟩ := eqInts_l0 a b hl (by omega) a.length k 0 (by omega) hk
    rw [show ((0 : Int)) = ((0 : Nat) : Int) by rfl, hr]; congr 1; rw [Bool.eq_iff_iff, hiff, decide_eq_true_iff]
    constructor
    · intro hh
      apply List.ext_getElem (by omega)
      intro j h1 h2
      have := hh j (by omega) h1
      rwa [rd_lt a j h1, rd_lt b j h2] at this
    · rintro rfl j _ _; rfl
  · rw [if_neg h]; congr 1; symm; rw [decide_eq_false_iff_not]; rintro rfl; exact h rfl
theorem eqInts_self (k : Nat) (a : List Int) (hl : a.length ≤ 1048576) (hk : a.length < k) : laws_eqInt64S.f k a a = some true := by
  rw [eqInts_eq k a a hl hk]; simp

theorem rdR_lt (l : List (List Int)) (j : Nat) (h : j < l.length) : rd_L1 l j = l[j] := by
  unfold rd_L1; rw [Int.toNat_natCast, List.getD_eq_getElem?_getD, List.getElem?_eq_getElem h]; rfl
theorem szSS_l0 (l : List (List Int)) (hl : l.length ≤ 1048576) (hn : ∀ p ∈ l, p.length ≤ maxLen) (d : Nat) : ∀ (i : Nat) (left : Int), l.length = i + d → 0 ≤ left ∧ left ≤ 1048576 →
    ∃ r, (∀ k, d < k → laws_szInt64SS.l0 k l left i = some r) ∧ (r < 0 ∨ (0 ≤ r ∧ r ≤ left ∧ ∀ j, i ≤ j → j < l.length → (rd_L1 l j).length ≤ 1048576)) := by
  induction d with
  | zero =>
    intro i left hd hb
    refine ⟨left, fun k hk => ?_, .inr ⟨hb.1, by omega, fun j h1 h2 => by omega⟩⟩
    obtain ⟨k, rfl⟩ : ∃ m, k = m + 1 := ⟨k - 1, by omega⟩
    simp only [laws_szInt64SS.l0]; rw [if_neg (by omega)]
  | succ d ih =>
    intro i left hd hb
    have hp : (rd_L1 l i).length ≤ maxLen := by rw [rdR_lt l i (by omega)]; exact hn _ (List.getElem_mem _)
    unfold maxLen at hp
    by_cases c : left - ((rd_L1 l i).length : Int) < 0
    · refine ⟨-1, fun k hk => ?_, .inl (by omega)⟩
      obtain ⟨k, rfl⟩ : ∃ m, k = m + 1 := ⟨k - 1, by omega⟩
      simp only [laws_szInt64SS.l0, laws_szInt64S.f]
      rw [if_pos (by omega), if_pos (by omega), wr (n := left - ((rd_L1 l i).length : Int)) (by omega), if_pos c, Option.bind_some, if_pos (by omega)]
    · obtain ⟨r, h1, h2⟩ := ih (i + 1) (left - ((rd_L1 l i).length : Int)) (by omega) (by omega)
      refine ⟨r, fun k hk => ?_, h2.imp_right fun ⟨h3, h4, h5⟩ => ⟨h3, by omega, fun j q1 q2 => ?_⟩⟩
      · obtain ⟨k, rfl⟩ : ∃ m, k = m + 1 := ⟨k - 1, by omega⟩
        simp only [laws_szInt64SS.l0, laws_szInt64S.f]
        rw [if_pos (by omega), if_pos (by omega), wr (n := left - ((rd_L1 l i).length : Int)) (by omega), if_neg c, Option.bind_some, if_neg (by omega), wr (n := (i : Int) + 1) (by omega), show ((i : Int) + 1) = ((i + 1 : Nat) : Int) by omega]
        exact h1 k (by omega)
      · by_cases e : j = i
        · subst e; omega
        · exact h5 j (by omega) q2
theorem szRaga_eq (a : ByteArray) (u v : List Int) (s t : Int) (f : List (List Int)) (left : Int) (ha : a.size ≤ maxLen) (hu : u.length ≤ maxLen) (hv : v.length ≤ maxLen) (hf : f.length ≤ maxLen) (hn : ∀ p ∈ f, p.length ≤ maxLen) (h : 0 ≤ left ∧ left ≤ 1048576) :
    ∃ r, (∀ k, 1048576 < k → laws_szRaga.f k a u v s t f left = some r) ∧ (r < 0 ∨ (0 ≤ r ∧ r ≤ left ∧ u.length ≤ 1048576 ∧ v.length ≤ 1048576 ∧ f.length ≤ 1048576 ∧ ∀ j, j < f.length → (rd_L1 f j).length ≤ 1048576)) := by
  have hn' := hn
  unfold maxLen at ha hu hv hf
  unfold laws_szRaga.f laws_szInt64S.f laws_szInt64SS.f
  rw [wr (n := left - (a.size : Int)) (by omega)]
  by_cases c1 : left - (a.size : Int) < 0
  · exact ⟨-1, fun k _ => by rw [if_pos c1], .inl (by omega)⟩
  · rw [wr (n := left - (a.size : Int) - (u.length : Int)) (by omega)]
    by_cases c2 : left - (a.size : Int) - (u.length : Int) < 0
    · exact ⟨-1, fun k _ => by rw [if_neg c1, if_pos c2]; rfl, .inl (by omega)⟩
    · by_cases c3 : left - (a.size : Int) - (u.length : Int) - (v.length : Int) < 0
      · exact ⟨-1, fun k _ => by rw [if_neg c1, if_neg c2, Option.bind_some, if_neg c2, wr (n := left - (a.size : Int) - (u.length : Int) - (v.length : Int)) (by omega), if_pos c3]; rfl, .inl (by omega)⟩
      · by_cases c4 : left - (a.size : Int) - (u.length : Int) - (v.length : Int) - (f.length : Int) < 0
        · exact ⟨-1, fun k _ => by rw [if_neg c1, if_neg c2, Option.bind_some, if_neg c2, wr (n := left - (a.size : Int) - (u.length : Int) - (v.length : Int)) (by omega), if_neg c3, Option.bind_some, if_neg c3, wr (n := left - (a.size : Int) - (u.length : Int) - (v.length : Int) - (f.length : Int)) (by omega), if_pos c4]; rfl, .inl (by omega)⟩
        · obtain ⟨r, h1, h2⟩ := szSS_l0 f (by omega) hn' f.length 0 (left - (a.size : Int) - (u.length : Int) - (v.length : Int) - (f.length : Int)) (by omega) (by omega)
          have e : ∀ k, 1048576 < k → laws_szInt64SS.l0 k f (left - (a.size : Int) - (u.length : Int) - (v.length : Int) - (f.length : Int)) 0 = some r := fun k hk => h1 k (by omega)
          rcases h2 with h2 | ⟨h3, h4, h5⟩
          · refine ⟨-1, fun k hk => ?_, .inl (by omega)⟩
            rw [if_neg c1, if_neg c2, Option.bind_some, if_neg c2, wr (n := left - (a.size : Int) - (u.length : Int) - (v.length : Int)) (by omega), if_neg c3, Option.bind_some, if_neg c3, wr (n := left - (a.size : Int) - (u.length : Int) - (v.length : Int) - (f.length : Int)) (by omega), if_neg c4, e k hk, Option.bind_some, if_pos h2]
          · refine ⟨r, fun k hk => ?_, .inr ⟨h3, by omega, by omega, by omega, by omega, fun j hj => h5 j (by omega) hj⟩⟩
            rw [if_neg c1, if_neg c2, Option.bind_some, if_neg c2, wr (n := left - (a.size : Int) - (u.length : Int) - (v.length : Int)) (by omega), if_neg c3, Option.bind_some, if_neg c3, wr (n := left - (a.size : Int) - (u.length : Int) - (v.length : Int) - (f.length : Int)) (by omega), if_neg c4, e k hk, Option.bind_some, if_neg (by omega)]
theorem toSS_l0 (l : List (List Int)) (hl : l.length ≤ 1048576) (hn : ∀ j : Nat, j < l.length → (rd_L1 l j).length ≤ 1048576) (d : Nat) : ∀ (k i : Nat) (m : List (List Int)), l.length = i + d → d + 1048577 < k →
    m = l.take i ++ List.replicate (l.length - i) [] → laws_toInt64SS.l0 k l m i = some l := by
  induction d with
  | zero =>
    intro k i m hd hk hm
    obtain ⟨k, rfl⟩ : ∃ m, k = m + 1 := ⟨k - 1, by omega⟩
    simp only [laws_toInt64SS.l0]; rw [if_neg (by omega), hm, show l.length - i = 0 by omega, List.take_of_length_le (by omega)]; simp
  | succ d ih =>
    intro k i m hd hk hm
    obtain ⟨k, rfl⟩ : ∃ m, k = m + 1 := ⟨k - 1, by omega⟩
    have hml : m.length = l.length := by subst hm; simp; omega
    have hp := hn i (by omega)
    simp only [laws_toInt64SS.l0]
    rw [if_pos (by omega), if_pos (by omega), toInts_eq k _ hp (by omega)]
    simp only [Option.bind_some]
    rw [if_pos (by omega), wr (n := (i : Int) + 1) (by omega), show ((i : Int) + 1) = ((i + 1 : Nat) : Int) by omega]
    apply ih k (i + 1) _ (by omega) (by omega)
    have h1 : (l.take i).length = i := by simp; omega
    rw [Int.toNat_natCast, hm, rdR_lt l i (by omega), List.take_succ_eq_append_getElem (by omega), show l.length - i = (l.length - (i + 1)) + 1 by omega, List.replicate_succ, List.set_append_right _ _ (by omega), h1, Nat.sub_self, List.set_cons_zero, List.append_assoc]
    rfl
theorem eqSS_l0 (l : List (List Int)) (hl : l.length ≤ 1048576) (hn : ∀ j : Nat, j < l.length → (rd_L1 l j).length ≤ 1048576) (d : Nat) : ∀ (k i : Nat), l.length = i + d → d + 1048577 < k → laws_eqInt64SS.l0 k l l i = some true := by
  induction d with
  | zero =>
    intro k i hd hk
    obtain ⟨k, rfl⟩ : ∃ m, k = m + 1 := ⟨k - 1, by omega⟩
    simp only [laws_eqInt64SS.l0]; rw [if_neg (by omega)]
  | succ d ih =>
    intro k i hd hk
    obtain ⟨k, rfl⟩ : ∃ m, k = m + 1 := ⟨k - 1, by omega⟩
    have hp := hn i (by omega)
    simp only [laws_eqInt64SS.l0]
    rw [if_pos (by omega), if_pos (by omega), if_pos (by omega), eqInts_self k _ hp (by omega), Option.bind_some, if_pos rfl, wr (n := (i : Int) + 1) (by omega), show ((i : Int) + 1) = ((i + 1 : Nat) : Int) by omega]
    exact ih k (i + 1) (by omega) (by omega)
/-- The sizes that a law lets in. -/
def Small (u v : List Int) (f : List (List Int)) : Prop := u.length ≤ 1048576 ∧ v.length ≤ 1048576 ∧ f.length ≤ 1048576 ∧ ∀ j : Nat, j < f.length → (rd_L1 f j).length ≤ 1048576
theorem toRaga_eq (k : Nat) (a : ByteArray) (u v : List Int) (s t : Int) (f : List (List Int)) (h : Small u v f) (hk : 3000000 < k) : laws_toRaga.f k a u v s t f = some (a, u, v, s, t, f) := by
  obtain ⟨h1, h2, h3, h4⟩ := h
  have e := toSS_l0 f h3 h4 f.length k 0 (List.replicate (f.length : Int).toNat []) (by omega) (by omega) (by simp)
  simp only [Int.natCast_zero] at e
  unfold laws_toRaga.f laws_toInt64SS.f
  rw [toInts_eq k u h1 (by omega), Option.bind_some, toInts_eq k v h2 (by omega), Option.bind_some, if_pos (by omega), if_pos (by omega), e]
  rfl
theorem eqRaga_self (k : Nat) (a : ByteArray) (u v : List Int) (s t : Int) (f : List (List Int)) (h : Small u v f) (hk : 3000000 < k) : laws_eqRaga.f k a u v s t f a u v s t f = some true := by
  obtain ⟨h1, h2, h3, h4⟩ := h
  have e := eqSS_l0 f h3 h4 f.length k 0 (by omega) (by omega)
  simp only [Int.natCast_zero] at e
  unfold laws_eqRaga.f laws_eqInt64SS.f
  rw [if_pos rfl, eqInts_self k u h1 (by omega), Option.bind_some, if_pos rfl, eqInts_self k v h2 (by omega), Option.bind_some, if_pos rfl, if_pos rfl, if_pos rfl, if_pos rfl, e]
  rfl

theorem sameInts_l0 (a b : List Int) (hl : a.length ≤ 1048576) (he : a.length = b.length) (d : Nat) : ∀ (i : Nat), a.length = i + d →
    ∃ r, ∀ k, d < k → spec_l00Same.l0 k a b i = some r ∧ slices_Equal_int64_int64.l0 k a b a.length i = some r := by
  induction d with
  | zero =>
    intro i hd
    refine ⟨true, fun k hk => ?_⟩
    obtain ⟨k, rfl⟩ : ∃ m, k = m + 1 := ⟨k - 1, by omega⟩
    simp only [spec_l00Same.l0, slices_Equal_int64_int64.l0]
    rw [if_neg (by omega), if_neg (by omega)]; exact ⟨rfl, rfl⟩
  | succ d ih =>
    intro i hd
    by_cases hc : rd a i = rd b i
    · obtain ⟨r, hr⟩ := ih (i + 1) (by omega)
      refine ⟨r, fun k hk => ?_⟩
      obtain ⟨k, rfl⟩ : ∃ m, k = m + 1 := ⟨k - 1, by omega⟩
      simp only [spec_l00Same.l0, slices_Equal_int64_int64.l0]
      rw [if_pos (by omega), if_pos (by omega), if_pos (by omega), if_pos hc, if_pos (by omega), if_pos (by omega), if_pos (by omega), if_pos (by omega), if_pos hc, wr (n := (i : Int) + 1) (by omega), show ((i : Int) + 1) = ((i + 1 : Nat) : Int) by omega]
      exact hr k (by omega)
    · refine ⟨false, fun k hk => ?_⟩
      obtain ⟨k, rfl⟩ : ∃ m, k = m + 1 := ⟨k - 1, by omega⟩
      simp only [spec_l00Same.l0, slices_Equal_int64_int64.l0]
      rw [if_pos (by omega), if_pos (by omega), if_pos (by omega), if_neg hc, if_pos (by omega), if_pos (by omega), if_pos (by omega), if_pos (by omega), if_neg hc]; exact ⟨rfl, rfl⟩
theorem sameInts (a b : List Int) (hl : a.length ≤ 1048576) : ∃ r, ∀ k, a.length < k → spec_l00Same.f k a b = some r ∧ slices_Equal_int64_int64.f k a b = some r := by
  unfold spec_l00Same.f slices_Equal_int64_int64.f
  by_cases he : (a.length : Int) = (b.length : Int)
  · obtain ⟨r, hr⟩ := sameInts_l0 a b hl (by omega) a.length 0 (by omega)
    exact ⟨r, fun k hk => by rw [if_pos he, if_pos he]; exact hr k hk⟩
  · exact ⟨false, fun k _ => by rw [if_neg he, if_neg he]; exact ⟨rfl, rfl⟩⟩

theorem same_l0 (a : ByteArray) (u v : List Int) (s t : Int) (f : List (List Int)) (a' : ByteArray) (u' v' : List Int) (s' t' : Int) (f' : List (List Int)) (hl : f.length ≤ 1048576) (he : f.length = f'.length) (hr : ∀ j : Nat, j < f.length → (rd_L1 f j).length ≤ 1048576) (d : Nat) : ∀ (i : Nat), f.length = i + d →
    ∃ r, ∀ k, 1048577 + d < k → spec_SameRaga.l0 k i a u v s t f a' u' v' s' t' f' = some r ∧ eqRows.l0 k f f' i = some r := by
  induction d with
  | zero =>
    intro i hd
    refine ⟨true, fun k hk => ?_⟩
    obtain ⟨k, rfl⟩ : ∃ m, k = m + 1 := ⟨k - 1, by omega⟩
    have e : ¬ (i : Int) < (f.length : Int) := by omega
    simp only [spec_SameRaga.l0, eqRows.l0]
    rw [if_neg e, if_neg e]; exact ⟨rfl, rfl⟩
  | succ d ih =>
    intro i hd
    have e : (i : Int) < (f.length : Int) := by omega
    have e0 : 0 ≤ (i : Int) := by omega
    have e1 : (i : Int) < (f'.length : Int) := by omega
    have ew : wrap64 ((i : Int) + 1) = ((i + 1 : Nat) : Int) := by rw [wr (n := (i : Int) + 1) (by omega)]; omega
    have hz := hr i (by omega)
    obtain ⟨r, h1⟩ := sameInts (rd_L1 f i) (rd_L1 f' i) hz
    obtain ⟨r2, h2⟩ := ih (i + 1) (by omega)
    refine ⟨if r = true then r2 else false, fun k hk => ?_⟩
    obtain ⟨k, rfl⟩ : ∃ m, k = m + 1 := ⟨k - 1, by omega⟩
    simp only [spec_SameRaga.l0, eqRows.l0, (h1 k (by omega)).1, (h1 k (by omega)).2, Option.bind_some, ew, (h2 k (by omega)).1, (h2 k (by omega)).2]
    rw [if_pos e, if_pos e0, if_pos e1]
    cases r <;> simp
theorem sameRaga_eq (a : ByteArray) (u v : List Int) (s t : Int) (f : List (List Int)) (a' : ByteArray) (u' v' : List Int) (s' t' : Int) (f' : List (List Int)) (hs : Small u v f) :
    ∃ r, ∀ k, 3000000 < k → spec_SameRaga.f k a u v s t f a' u' v' s' t' f' = some r ∧ impl_SameRaga.f k a u v s t f a' u' v' s' t' f' = some r := by
  obtain ⟨h1, h2, h3, h4⟩ := hs
  obtain ⟨r1, e1⟩ := sameInts u u' h1
  obtain ⟨r2, e2⟩ := sameInts v v' h2
  unfold spec_SameRaga.f impl_SameRaga.f
  by_cases ca : a.toList = a'.toList
  · cases r1 with
    | false =>
      refine ⟨false, fun k hk => ?_⟩
      obtain ⟨k, rfl⟩ : ∃ m, k = m + 1 := ⟨k - 1, by omega⟩
      rw [if_pos ca, if_pos ca, (e1 _ (by omega)).1, (e1 _ (by omega)).2]; simp [spec_SameRaga.j0]
    | true =>
      cases r2 with
      | false =>
        refine ⟨false, fun k hk => ?_⟩
        obtain ⟨k, rfl⟩ : ∃ m, k = m + 1 := ⟨k - 1, by omega⟩
        rw [if_pos ca, if_pos ca, (e1 _ (by omega)).1, (e1 _ (by omega)).2, (e2 _ (by omega)).1, (e2 _ (by omega)).2]; simp [spec_SameRaga.j0]
      | true =>
        by_cases cs : s = s'
        · by_cases ct : t = t'
          · by_cases he : (f.length : Int) = (f'.length : Int)
            · obtain ⟨r, hr⟩ := same_l0 a u v s t f a' u' v' s' t' f' h3 (by omega) h4 f.length 0 (by omega)
              refine ⟨r, fun k hk => ?_⟩
              obtain ⟨k, rfl⟩ : ∃ m, k = m + 1 := ⟨k - 1, by omega⟩
              have hr1 := (hr k (by omega)).1
              have hr2 := (hr (k + 1) (by omega)).2
              simp only [Int.natCast_zero] at hr1 hr2
              have hb : ((f.length : Int) != (f'.length : Int)) = false := bne_eq_false_iff_eq.mpr he
              rw [if_pos ca, if_pos ca, (e1 _ (by omega)).1, (e1 _ (by omega)).2, (e2 _ (by omega)).1, (e2 _ (by omega)).2, hb]
              simp only [Option.bind_some, if_true, if_pos cs, if_pos ct, spec_SameRaga.j0, eqRows.f, if_pos he, hr1, hr2]
              first | exact ⟨rfl, rfl⟩ | simp
            · refine ⟨false, fun k hk => ?_⟩
              obtain ⟨k, rfl⟩ : ∃ m, k = m + 1 := ⟨k - 1, by omega⟩
              have hb : ((f.length : Int) != (f'.length : Int)) = true := bne_iff_ne.mpr he
              rw [if_pos ca, if_pos ca, (e1 _ (by omega)).1, (e1 _ (by omega)).2, (e2 _ (by omega)).1, (e2 _ (by omega)).2, hb]
              simp only [Option.bind_some, if_true, if_pos cs, if_pos ct, spec_SameRaga.j0, eqRows.f, if_neg he]
              first | exact ⟨rfl, rfl⟩ | simp
          · refine ⟨false, fun k hk => ?_⟩
            obtain ⟨k, rfl⟩ : ∃ m, k = m + 1 := ⟨k - 1, by omega⟩
            rw [if_pos ca, if_pos ca, (e1 _ (by omega)).1, (e1 _ (by omega)).2, (e2 _ (by omega)).1, (e2 _ (by omega)).2]; simp [spec_SameRaga.j0, ct]
        · refine ⟨false, fun k hk => ?_⟩
          obtain ⟨k, rfl⟩ : ∃ m, k = m + 1 := ⟨k - 1, by omega⟩
          rw [if_pos ca, if_pos ca, (e1 _ (by omega)).1, (e1 _ (by omega)).2, (e2 _ (by omega)).1, (e2 _ (by omega)).2]; simp [spec_SameRaga.j0, cs]
  · refine ⟨false, fun k hk => ?_⟩
    obtain ⟨k, rfl⟩ : ∃ m, k = m + 1 := ⟨k - 1, by omega⟩
    rw [if_neg ca, if_neg ca]; simp [spec_SameRaga.j0]
theorem FnExactSameRaga : laws_FnExactSameRaga.Pure := by
  intro a u v s t f a' u' v' s' t' f' ha hu hv _ _ hf hn ha' hu' hv' _ _ hf' hn'
  refine ⟨4000000, ?_⟩
  obtain ⟨z, h1, h2⟩ := szRaga_eq a u v s t f 1048576 ha hu hv hf hn (by omega)
  unfold laws_FnExactSameRaga.f
  rw [h1 _ (by omega), Option.bind_some]
  rcases h2 with h2 | ⟨h3, h3', h4, h5, h6, h7⟩
  · rw [if_pos h2]
  · rw [if_neg (by omega)]
    obtain ⟨z2, g1, g2⟩ := szRaga_eq a' u' v' s' t' f' z ha' hu' hv' hf' hn' (by omega)
    rw [g1 _ (by omega), Option.bind_some]
    rcases g2 with g2 | ⟨g3, _, g4, g5, g6, g7⟩
    · rw [if_pos g2]
    · have hs : Small u v f := ⟨h4, h5, h6, h7⟩
      have hs' : Small u' v' f' := ⟨g4, g5, g6, g7⟩
      obtain ⟨r, hr⟩ := sameRaga_eq a u v s t f a' u' v' s' t' f' hs
      have tR : ∀ k, 3000000 < k → laws_toRaga.f k a u v s t f = some (a, u, v, s, t, f) := fun k hk => toRaga_eq k a u v s t f hs hk
      have eR : ∀ k, 3000000 < k → laws_eqRaga.f k a u v s t f a u v s t f = some true := fun k hk => eqRaga_self k a u v s t f hs hk
      have tR' : ∀ k, 3000000 < k → laws_toRaga.f k a' u' v' s' t' f' = some (a', u', v', s', t', f') := fun k hk => toRaga_eq k a' u' v' s' t' f' hs' hk
      have eR' : ∀ k, 3000000 < k → laws_eqRaga.f k a' u' v' s' t' f' a' u' v' s' t' f' = some true := fun k hk => eqRaga_self k a' u' v' s' t' f' hs' hk
      rw [if_neg (by omega), tR _ (by omega)]
      simp only [Option.bind_some]
      rw [tR' _ (by omega)]
      simp only [Option.bind_some]
      rw [(hr _ (by omega)).1, (hr _ (by omega)).2]
      simp only [Option.bind_some, bne_self_eq_false, Bool.false_eq_true, if_false]
      rw [eR _ (by omega)]
      simp only [Option.bind_some, if_true]
      rw [eR' _ (by omega)]; simp

end Go.Proofs.Ytglamjckdodeoaa.Pure
