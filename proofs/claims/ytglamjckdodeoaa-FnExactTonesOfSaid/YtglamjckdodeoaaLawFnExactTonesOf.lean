-- Written by wip/myprint.py: the kit's print, with contracts of this session's own among the functions.
import Derived.Test.YtglamjckdodeoaaRows
import Derived.Test.YtglamjckdodeoaaPFnExactTonesOfx6
import Derived.Test.YtglamjckdodeoaaPureFnExactTonesOf
import Derived.WalkKit
import Derived.ProofKit
import Derived.OpenShut
import Derived.ShutString
import Derived.ChangeOld
import Derived.Below
import Derived.SizedLaws
import Derived.Lib.SmallJoins
import Derived.Deep.SlicePairs
import Derived.Deep.Matrix
namespace Go.Proofs.Ytglamjckdodeoaa.fnExactTonesOf
open Go.ChangeShapes Go.WideShapes Go.ChangeAt Go.RowKit Go.Joins
open Go.ChangeMaps (open_string shut_string)
open Go.Proofs.YtglamjckdodeoaaW.PrintWords Go.Proofs.YtglamjckdodeoaaW.PrintMore Go.Proofs.Ytglamjckdodeoaa.PFnExactTonesOf
set_option linter.unusedVariables false
theorem own : ownKnob Try.prog.godebug = none := by kernel_rfl
theorem laidOut : laidOutB Try.prog = true := by kernel_rfl
theorem cells25 : Try.prog.cellsOf 25 = 6 := by kernel_rfl
theorem one2 : Try.prog.cellsOf 2 = 1 := by kernel_rfl
theorem one9 : Try.prog.cellsOf 9 = 1 := by kernel_rfl
theorem one22 : Try.prog.cellsOf 22 = 1 := by kernel_rfl
theorem one23 : Try.prog.cellsOf 23 = 1 := by kernel_rfl
theorem list6 {l : List Value} (h : l.length = 6) : ∃ a0 a1 a2 a3 a4 a5, l = [a0, a1, a2, a3, a4, a5] := by
  match l, h with
  | [a0, a1, a2, a3, a4, a5], _ => exact ⟨a0, a1, a2, a3, a4, a5, rfl⟩
/-- A slice of whole numbers that came in, as the walk reads it. -/
theorem rd22 {H : Type} {enc : TypeId × Value → H} {W : World} {fuel : Nat} {v : Value} {x : DataW H × List MemPlace} (h : DataW.trod enc Try.prog W 0 (fun _ => true) true fuel 22 [v] = some x) : ∃ (A : Option Addr) (c : Nat) (l : List Int), v = .slice A l.length c ∧ l.length ≤ c ∧ l.length ≤ maxLen ∧ Kd.C (Kd.int .i64) W A l.length l := by
  rcases open_ints Try.underlying22 Try.underlying2 (by kernel_rfl) h with ⟨hcs, _⟩ | ⟨y, len, cap, zs, hcs, _, hl, hm, hz, _, hcell, hwz⟩
  · obtain rfl : v = .slice none 0 0 := by simpa using hcs
    exact ⟨none, 0, [], rfl, Nat.le_refl _, Nat.zero_le _, Kd.C_nil _ _⟩
  · obtain rfl : v = .slice (some y) len cap := by simpa using hcs
    obtain ⟨l, rfl, h1, h2, _, h4⟩ := ReadsInt.ofRowC (k := .i64) (w := W) (a := some y) (len := len) (cap := cap) (zs := zs) (.inr ⟨y, rfl, hl, hm, by simpa using hz, hcell, hwz⟩)
    exact ⟨some y, cap, l, rfl, h4, h2, Kd.C_of_reads (d := (0 : Int)) (h1 := fun _ => rfl) h1⟩
/-- A slice of slices of whole numbers that came in, as the walk reads it. -/
theorem rd23 {H : Type} {enc : TypeId × Value → H} {W : World} {fuel : Nat} {v : Value} {x : DataW H × List MemPlace} (h : DataW.trod enc Try.prog W 0 (fun _ => true) true fuel 23 [v] = some x) : ∃ (A : Option Addr) (c : Nat) (l : List (List Int)), v = .slice A l.length c ∧ l.length ≤ c ∧ l.length ≤ maxLen ∧ (∀ p ∈ l, p.length ≤ maxLen) ∧ Kd.C (Kd.slice 2 (Kd.int .i64)) W A l.length l := by
  rcases Go.Deep.open_int_rows Try.underlying23 Try.underlying22 Try.underlying2 (by kernel_rfl) (by kernel_rfl) h with ⟨hcs, _⟩ | ⟨a, len, cap, A, L, C, Z, hcs, _, hl, hm, _, hx⟩
  · obtain rfl : v = .slice none 0 0 := by simpa using hcs
    exact ⟨none, 0, [], rfl, Nat.le_refl _, Nat.zero_le _, by simp, Kd.C_nil _ _⟩
  · obtain rfl : v = .slice (some a) len cap := by simpa using hcs
    have each : ∀ i, i < len → ∃ l : List Int, ∃ c, W.cell? (a.add i) = some (.slice (A i) l.length c) ∧ l.length ≤ c ∧ l.length ≤ maxLen ∧ Kd.C (Kd.int .i64) W (A i) l.length l := by
      intro i hi
      obtain ⟨h0, h1, h2, h3, h4, h5, h6⟩ := hx i (by omega)
      have hrow : (A i = none ∧ L i = 0 ∧ C i = 0 ∧ Z i = []) ∨ ∃ x, A i = some x ∧ L i ≤ C i ∧ C i ≤ maxLen ∧ (Z i).length = C i ∧ (∀ j, j < (Z i).length → W.cell? (x.add j) = some (.int .i64 ((Z i).getD j 0))) ∧ ∀ n ∈ Z i, (Lit.int .i64 n).wf = true := by
        cases hA : A i with
        | none => have := h5 hA; exact .inl ⟨rfl, by omega, this, List.length_eq_zero_iff.1 (by omega)⟩
        | some y => exact .inr ⟨y, rfl, h1, h2, h3, fun j hj => (h6 y hA).2 j (by omega), h4⟩
      obtain ⟨l, e1, h7, h9, _, h8⟩ := ReadsInt.ofRowC hrow
      exact ⟨l, C i, by rw [h0, e1], h8, h9, Kd.C_of_reads (d := (0 : Int)) (h1 := fun _ => rfl) h7⟩
    obtain ⟨F, hF⟩ := Go.Deep.choose_lt each
    have hlen : ((List.range len).map F).length = len := by simp
    refine ⟨some a, cap, (List.range len).map F, by rw [hlen], by rw [hlen]; exact hl, by rw [hlen]; exact Nat.le_trans hl hm, fun p hp => by obtain ⟨j, hj, rfl⟩ := List.mem_map.1 hp; obtain ⟨_, _, _, g3, _⟩ := hF j (List.mem_range.1 hj); exact g3, ?_⟩
    rw [hlen]
    refine ⟨hlen, by unfold maxLen at hm; omega, fun hn => ⟨a, rfl, fun j p hj => ?_⟩⟩
    obtain ⟨hjl, hjp⟩ := List.getElem?_eq_some_iff.1 hj
    have hjn : j < len := by rw [hlen] at hjl; exact hjl
    obtain rfl : F j = p := by simpa using hjp
    obtain ⟨c, g0, g1, _, g2⟩ := hF j hjn
    refine ⟨[.slice (A j) (F j).length c], rfl, ⟨A j, c, rfl, g1, g2⟩, fun i u hu => ?_⟩
    match i, hu with
    | 0, hu => obtain rfl : Value.slice (A j) (F j).length c = u := by simpa using hu
               simpa [Kd.slice] using g0
    | i + 1, hu => simp at hu
set_option maxRecDepth 100000 in
theorem lifted (os : Os) (started : os.Started) (H : Type) (enc : TypeId × Value → H) :
    ReturnsInHanded {} Try.checked os 7 .any (Rows.fnExactTonesOfSpec.pre6 enc Try.prog Try.f7 Rows.fnExactTonesOfRow.domain false) (Rows.fnExactTonesOfSpec.post enc Try.prog Try.f7 false true false false) := by
  refine returnsInHanded_of_change_sized (C := Try.checked) own started (by kernel_rfl) Try.func7
    (ChangeSpec.witness6 (enc := enc) (C := Try.checked) false ⟨#[], #[.agg #[.string ByteArray.empty, .slice none 0 0, .slice none 0 0, .int .i64 0, .int .i64 0, .slice none 0 0]], []⟩ 8 (by kernel_rfl) (by kernel_rfl) (by kernel_rfl) (by kernel_rfl)) ?_
  intro W base args ds gs before hval0 hW hcnd hsz0 _
  have hsz : (DataW.weightsEach Try.prog (Try.f7.params.toList ++ Rows.fnExactTonesOfSpec.plain.varTypes Try.prog) (ds ++ gs)).all (· ≤ reachBytes) = true := hsz0
  have hval : ∀ (j : Nat) t v, Try.f7.params[j]? = some t → args[j]? = some v → Value.okWide Try.prog W .any base t v := hval0
  have hW' := hW
  obtain ⟨p, q, hA0, hV, rfl, hfz, hnd⟩ := hW
  have hA : DataW.TrodAll enc Try.prog W 0 (fun _ => true) true Try.f7.params.toList args.toList ds p := hA0
  rw [Try.params7] at hA hval hsz
  obtain ⟨v0, vs0, d0, ds0, p0, q0, hargs, rfl, rfl, h0, r0⟩ := trodAll_cons hA
  obtain ⟨rfl, rfl, rfl⟩ := trodAll_nil r0
  obtain rfl : args = #[v0] := by cases args; simp_all
  obtain ⟨rfl, rfl⟩ := trodVars_none hV
  have k0 := h0
  have lt0 : ∀ x ∈ p0, x.block < W.heap.size := by obtain ⟨m, hm⟩ := k0; exact DataW.trod_lt m _ _ _ hm
  obtain ⟨cs0, rfl, hs0⟩ := okWide_struct Try.underlying25 (hval 0 25 v0 rfl rfl)
  obtain ⟨ls0⟩ := cs0
  obtain ⟨c0_0, c0_1, c0_2, c0_3, c0_4, c0_5, rfl⟩ := list6 (hs0.trans cells25)
  clear hs0
  obtain ⟨fuel0, hf0⟩ := h0
  obtain ⟨xs0, n0, _, _, _, hlen0, hg0⟩ := DataW.trod_struct Try.underlying25 hf0
  have g0_0 : DataW.trod enc Try.prog W 0 (fun _ => true) true n0 9 ((([c0_0, c0_1, c0_2, c0_3, c0_4, c0_5] : List Value).drop 0).take (Try.prog.cellsOf 9)) = xs0[0]? := hg0 0 _ rfl
  rw [one9, List.getElem?_eq_getElem (show 0 < xs0.length by rw [hlen0]; decide)] at g0_0
  replace g0_0 : DataW.trod enc Try.prog W 0 (fun _ => true) true n0 9 [c0_0] = some _ := g0_0
  obtain ⟨a0_0, e0_0, _, w0_0⟩ := DataW.trod_string Try.underlying9 g0_0
  obtain rfl : c0_0 = .string a0_0 := by simpa using e0_0
  clear e0_0
  have g0_1 : DataW.trod enc Try.prog W 0 (fun _ => true) true n0 22 ((([.string a0_0, c0_1, c0_2, c0_3, c0_4, c0_5] : List Value).drop 1).take (Try.prog.cellsOf 22)) = xs0[1]? := hg0 1 _ rfl
  rw [one22, List.getElem?_eq_getElem (show 1 < xs0.length by rw [hlen0]; decide)] at g0_1
  replace g0_1 : DataW.trod enc Try.prog W 0 (fun _ => true) true n0 22 [c0_1] = some _ := g0_1
  obtain ⟨A0_1, cp0_1, l0_1, rfl, hc0_1, hm0_1, hr0_1⟩ := rd22 g0_1
  have g0_2 : DataW.trod enc Try.prog W 0 (fun _ => true) true n0 22 ((([.string a0_0, .slice A0_1 l0_1.length cp0_1, c0_2, c0_3, c0_4, c0_5] : List Value).drop 2).take (Try.prog.cellsOf 22)) = xs0[2]? := hg0 2 _ rfl
  rw [one22, List.getElem?_eq_getElem (show 2 < xs0.length by rw [hlen0]; decide)] at g0_2
  replace g0_2 : DataW.trod enc Try.prog W 0 (fun _ => true) true n0 22 [c0_2] = some _ := g0_2
  obtain ⟨A0_2, cp0_2, l0_2, rfl, hc0_2, hm0_2, hr0_2⟩ := rd22 g0_2
  have g0_3 : DataW.trod enc Try.prog W 0 (fun _ => true) true n0 2 ((([.string a0_0, .slice A0_1 l0_1.length cp0_1, .slice A0_2 l0_2.length cp0_2, c0_3, c0_4, c0_5] : List Value).drop 3).take (Try.prog.cellsOf 2)) = xs0[3]? := hg0 3 _ rfl
  rw [one2, List.getElem?_eq_getElem (show 3 < xs0.length by rw [hlen0]; decide)] at g0_3
  replace g0_3 : DataW.trod enc Try.prog W 0 (fun _ => true) true n0 2 [c0_3] = some _ := g0_3
  obtain ⟨a0_3, e0_3, _, w0_3⟩ := DataW.trod_int Try.underlying2 g0_3
  obtain rfl : c0_3 = .int .i64 a0_3 := by simpa using e0_3
  clear e0_3
  have g0_4 : DataW.trod enc Try.prog W 0 (fun _ => true) true n0 2 ((([.string a0_0, .slice A0_1 l0_1.length cp0_1, .slice A0_2 l0_2.length cp0_2, .int .i64 a0_3, c0_4, c0_5] : List Value).drop 4).take (Try.prog.cellsOf 2)) = xs0[4]? := hg0 4 _ rfl
  rw [one2, List.getElem?_eq_getElem (show 4 < xs0.length by rw [hlen0]; decide)] at g0_4
  replace g0_4 : DataW.trod enc Try.prog W 0 (fun _ => true) true n0 2 [c0_4] = some _ := g0_4
  obtain ⟨a0_4, e0_4, _, w0_4⟩ := DataW.trod_int Try.underlying2 g0_4
  obtain rfl : c0_4 = .int .i64 a0_4 := by simpa using e0_4
  clear e0_4
  have g0_5 : DataW.trod enc Try.prog W 0 (fun _ => true) true n0 23 ((([.string a0_0, .slice A0_1 l0_1.length cp0_1, .slice A0_2 l0_2.length cp0_2, .int .i64 a0_3, .int .i64 a0_4, c0_5] : List Value).drop 5).take (Try.prog.cellsOf 23)) = xs0[5]? := hg0 5 _ rfl
  rw [one23, List.getElem?_eq_getElem (show 5 < xs0.length by rw [hlen0]; decide)] at g0_5
  replace g0_5 : DataW.trod enc Try.prog W 0 (fun _ => true) true n0 23 [c0_5] = some _ := g0_5
  obtain ⟨A0_5, cp0_5, l0_5, rfl, hc0_5, hm0_5, hn0_5, hr0_5⟩ := rd23 g0_5
  clear hg0
  clear hA0 hval0 hsz0 hsz
  obtain ⟨k, h⟩ := Pure.FnExactTonesOf a0_0 l0_1 l0_2 a0_3 a0_4 l0_5 w0_0 hm0_1 hm0_2 w0_3 w0_4 hm0_5 hn0_5
  refine (laws_FnExactTonesOf.calls k a0_0 _ _ l0_1 _ _ l0_2 a0_3 a0_4 _ _ l0_5 W (hr0_1) hc0_1 (hr0_2) hc0_2 (hr0_5) hc0_5 h).mono fun e W' ⟨he, hd⟩ => ?_
  have bel : Below W.heap.size W W' := hd
  subst he
  exact ⟨_, rfl, _, _, _, [], _, [], hW', trodAll_mk1 (shut_bool Try.underlying4 _), (trodAll_cons_mk (Below.trod laidOut (by kernel_rfl) (of_decide_eq_true (by kernel_rfl)) k0 bel lt0) trodAll_mk0), rfl, bel.frame _, fun h => by cases h⟩
theorem over : Rows.fnExactTonesOfRow.holds Try.pinned (OpenSpec.ofChange Rows.fnExactTonesOfSpec) :=
  OpenClaim.holds_of_wide 7 Try.f7 rfl rfl rfl rfl rfl rfl rfl ⟨rfl, rfl, rfl, rfl, rfl⟩ rfl rfl rfl rfl rfl (by kernel_rfl) Try.func7 (by kernel_rfl)
    (of_decide_eq_true (by kernel_rfl)) (by unfold Func.isWrapper; first | (rw [if_pos (by decide +kernel)]; kernel_rfl) | (rw [if_neg (by decide +kernel)]; exact ⟨rfl, rfl⟩))
    (fun os started H enc _ => lifted os started H enc)
theorem proved : Rows.FnExactTonesOfSaid := over
#print axioms proved
end Go.Proofs.Ytglamjckdodeoaa.fnExactTonesOf
namespace Go.Proofs.Ytglamjckdodeoaa
/-- The row, under a short name, for the claim. -/
theorem fnExactTonesOf_holds : Rows.FnExactTonesOfSaid := fnExactTonesOf.proved
end Go.Proofs.Ytglamjckdodeoaa
