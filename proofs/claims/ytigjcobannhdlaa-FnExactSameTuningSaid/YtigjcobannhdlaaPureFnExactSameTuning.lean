/- Proved: the plain statement of the law FnExactSameTuning: the program's function and the reference's give the same answer. Conditions: none beyond the statement's own. -/
import Derived.Test.YtigjcobannhdlaaStmFnExactSameTuning
namespace Go.Proofs.Ytigjcobannhdlaa.Pure
open Go.RowKit Go.Proofs.Ytigjcobannhdlaa.PFnExactSameTuning Go.Proofs.YtigjcobannhdlaaW.PrintWords Go.Proofs.YtigjcobannhdlaaW.PrintLast
set_option linter.unusedVariables false
set_option linter.unusedSimpArgs false

theorem wr {n : Int} (h : -9223372036854775808 ≤ n ∧ n ≤ 9223372036854775807) : wrap64 n = n := by unfold wrap64; omega

def toT (x : S38) : S41 := ⟨x.f0, x.f1⟩
theorem rdT_lt (l : List S41) (j : Nat) (h : j < l.length) : rd_T41 l j = l[j] := by
  unfold rd_T41; rw [Int.toNat_natCast, List.getD_eq_getElem?_getD, List.getElem?_eq_getElem h]; rfl
theorem rdL_lt (l : List S38) (j : Nat) (h : j < l.length) : rd_T38 l j = l[j] := by
  unfold rd_T38; rw [Int.toNat_natCast, List.getD_eq_getElem?_getD, List.getElem?_eq_getElem h]; rfl
theorem toRatioS_l0 (l : List S38) (hl : l.length ≤ 1048576) (d : Nat) : ∀ (k i : Nat) (m : List S41), l.length = i + d → d < k →
    m = (l.take i).map toT ++ List.replicate (l.length - i) z41 → laws_toRatioS.l0 k l m i = some (l.map toT) := by
  induction d with
  | zero =>
    intro k i m hd hk hm
    obtain ⟨k, rfl⟩ : ∃ m, k = m + 1 := ⟨k - 1, by omega⟩
    simp only [laws_toRatioS.l0]; rw [if_neg (by omega), hm, show l.length - i = 0 by omega, List.take_of_length_le (by omega)]; simp
  | succ d ih =>
    intro k i m hd hk hm
    obtain ⟨k, rfl⟩ : ∃ m, k = m + 1 := ⟨k - 1, by omega⟩
    have hml : m.length = l.length := by subst hm; simp; omega
    simp only [laws_toRatioS.l0, laws_toRatio.f]
    rw [if_pos (by omega), if_pos (by omega)]
    simp only [Option.bind_some]
    rw [if_pos (by omega), wr (n := (i : Int) + 1) (by omega), show ((i : Int) + 1) = ((i + 1 : Nat) : Int) by omega]
    apply ih k (i + 1) _ (by omega) (by omega)
    have h1 : ((l.take i).map toT).length = i := by simp; omega
    rw [Int.toNat_natCast, hm, rdL_lt l i (by omega), List.take_succ_eq_append_getElem (by omega), show l.length - i = (l.length - (i + 1)) + 1 by omega, List.replicate_succ, List.set_append_right _ _ (by omega), h1, Nat.sub_self, List.set_cons_zero, List.map_append, List.append_assoc]
    rfl
theorem toRatioS_eq (k : Nat) (l : List S38) (hl : l.length ≤ 1048576) (hk : l.length < k) : laws_toRatioS.f k l = some (l.map toT) := by
  unfold laws_toRatioS.f
  rw [if_pos (by omega), if_pos (by omega)]
  exact toRatioS_l0 l hl l.length k 0 _ (by omega) hk (by simp)
theorem toTuning_eq (k : Nat) (a : ByteArray) (l : List S38) (hl : l.length ≤ 1048576) (hk : l.length < k) : laws_toTuning.f k a l = some (a, l.map toT) := by
  unfold laws_toTuning.f; rw [toRatioS_eq k l hl hk]; rfl
theorem eqRatioS_l0 (l : List S41) (hl : l.length ≤ 1048576) (d : Nat) : ∀ (k i : Nat), l.length = i + d → d < k → laws_eqRatioS.l0 k l l i = some true := by
  induction d with
  | zero =>
    intro k i hd hk
    obtain ⟨k, rfl⟩ : ∃ m, k = m + 1 := ⟨k - 1, by omega⟩
    simp only [laws_eqRatioS.l0]; rw [if_neg (by omega)]
  | succ d ih =>
    intro k i hd hk
    obtain ⟨k, rfl⟩ : ∃ m, k = m + 1 := ⟨k - 1, by omega⟩
    simp only [laws_eqRatioS.l0, laws_eqRatio.f]
    rw [if_pos (by omega), if_pos (by omega), if_pos (by omega)]
    simp only [if_true, Option.bind_some]
    rw [wr (n := (i : Int) + 1) (by omega), show ((i : Int) + 1) = ((i + 1 : Nat) : Int) by omega]
    exact ih k (i + 1) (by omega) (by omega)
theorem eqRatioS_self (k : Nat) (l : List S41) (hl : l.length ≤ 1048576) (hk : l.length < k) : laws_eqRatioS.f k l l = some true := by
  unfold laws_eqRatioS.f; rw [if_pos rfl]; exact eqRatioS_l0 l hl l.length k 0 (by omega) hk
theorem eqTuning_self (k : Nat) (a : ByteArray) (l : List S41) (hl : l.length ≤ 1048576) (hk : l.length < k) : laws_eqTuning.f k a l a l = some true := by
  unfold laws_eqTuning.f; rw [if_pos rfl, eqRatioS_self k l hl hk]; rfl
theorem szTuning_eq (a : ByteArray) (l : List S38) (left : Int) (ha : a.size ≤ maxLen) (hl : l.length ≤ maxLen) (h : 0 ≤ left ∧ left ≤ 1048576) :
    ∃ r, laws_szTuning.f a l left = some r ∧ (r < 0 ∨ (0 ≤ r ∧ (a.size : Int) + l.length + r = left)) := by
  unfold maxLen at ha hl
  unfold laws_szTuning.f laws_szRatioS.f
  rw [wr (n := left - (a.size : Int)) (by omega)]
  by_cases c1 : left - (a.size : Int) < 0
  · exact ⟨-1, by rw [if_pos c1], .inl (by omega)⟩
  · rw [if_neg c1, wr (n := left - (a.size : Int) - (l.length : Int)) (by omega)]
    by_cases c2 : left - (a.size : Int) - (l.length : Int) < 0
    · exact ⟨-1, by rw [if_pos c2]; rfl, .inl (by omega)⟩
    · exact ⟨left - (a.size : Int) - (l.length : Int), by rw [if_neg c2]; simp only [Option.bind_some]; rw [if_neg c2], .inr (by omega)⟩

theorem same_l0 (n : ByteArray) (m : ByteArray) (a b : List S41) (hl : a.length ≤ 1048576) (he : a.length = b.length) (d : Nat) : ∀ (k i : Nat), a.length = i + d → d < k →
    ∃ r, spec_SameTuning.l0 k i n a m b = some r ∧ impl_Ratio.l0 k a b a.length i = some r := by
  induction d with
  | zero =>
    intro k i hd hk
    obtain ⟨k, rfl⟩ : ∃ m, k = m + 1 := ⟨k - 1, by omega⟩
    have c : ¬ (i : Int) < a.length := by omega
    simp only [spec_SameTuning.l0, impl_Ratio.l0, if_neg c]
    exact ⟨_, rfl, rfl⟩
  | succ d ih =>
    intro k i hd hk
    obtain ⟨k, rfl⟩ : ∃ m, k = m + 1 := ⟨k - 1, by omega⟩
    have c0 : (0 : Int) ≤ i := by omega
    have c1 : (i : Int) < a.length := by omega
    have c2 : (i : Int) < b.length := by omega
    obtain ⟨r, h1, h2⟩ := ih k (i + 1) (by omega) (by omega)
    simp only [spec_SameTuning.l0, impl_Ratio.l0, if_pos c0, if_pos c1, if_pos c2]
    rw [wr (n := (i : Int) + 1) (by omega), show ((i : Int) + 1) = ((i + 1 : Nat) : Int) by omega, h1, h2]
    split <;> exact ⟨_, rfl, rfl⟩
theorem same (k : Nat) (n m : ByteArray) (a b : List S41) (hl : a.length ≤ 1048576) (hk : a.length + 1 < k) : ∃ r, spec_SameTuning.f k n a m b = some r ∧ impl_SameTuning.f k n a m b = some r := by
  obtain ⟨k, rfl⟩ : ∃ m, k = m + 1 := ⟨k - 1, by omega⟩
  unfold spec_SameTuning.f impl_SameTuning.f impl_Ratio.f
  by_cases h1 : n.toList = m.toList
  · simp only [if_pos h1]
    by_cases h2 : (a.length : Int) = b.length
    · obtain ⟨r, e1, e2⟩ := same_l0 n m a b hl (by omega) a.length k 0 (by omega) (by omega)
      obtain ⟨r', e1', e2'⟩ := same_l0 n m a b hl (by omega) a.length (k + 1) 0 (by omega) (by omega)
      have e3 := impl_Ratio.mono_l k a b a.length (0 : Int) _ e2
      simp only [Int.natCast_zero] at e1 e2 e2'
      have : r = r' := Option.some.inj (e3.symm.trans e2')
      subst this
      refine ⟨r, ?_, by rw [if_pos h2, e2']; rfl⟩
      have hb : ((a.length : Int) != (b.length : Int)) = false := by simpa using h2
      simp only [spec_SameTuning.j0, hb, Bool.false_eq_true, if_false]
      exact e1
    · refine ⟨false, ?_, by rw [if_neg h2]; rfl⟩
      have hb : ((a.length : Int) != (b.length : Int)) = true := by simpa using h2
      simp only [spec_SameTuning.j0, hb, if_true]
  · exact ⟨false, by simp only [if_neg h1, spec_SameTuning.j0, if_true], by simp only [if_neg h1]⟩
theorem FnExactSameTuning : laws_FnExactSameTuning.Pure := by
  intro a l b m ha hl hb hm
  refine ⟨1048590, ?_⟩
  unfold laws_FnExactSameTuning.f
  obtain ⟨r, h1, h2⟩ := szTuning_eq a l 1048576 ha hl (by omega)
  rw [h1]; simp only [Option.bind_some]
  by_cases c1 : r < 0
  · rw [if_pos c1]
  · rw [if_neg c1]
    obtain ⟨q, h3, h4⟩ := szTuning_eq b m r hb hm (by omega)
    rw [h3]; simp only [Option.bind_some]
    by_cases c2 : q < 0
    · rw [if_pos c2]
    · rw [if_neg c2]
      obtain ⟨s, e1, e2⟩ := same 1048590 a b (l.map toT) (m.map toT) (by simp; omega) (by simp; omega)
      rw [toTuning_eq _ a l (by omega) (by omega), toTuning_eq _ b m (by omega) (by omega)]
      simp only [Option.bind_some, e1, e2, bne_self_eq_false, Bool.false_eq_true, if_false]
      rw [eqTuning_self _ a _ (by simp; omega) (by simp; omega), eqTuning_self _ b _ (by simp; omega) (by simp; omega)]
      simp

end Go.Proofs.Ytigjcobannhdlaa.Pure
