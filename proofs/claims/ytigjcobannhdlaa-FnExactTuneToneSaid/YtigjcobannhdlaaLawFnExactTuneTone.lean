-- Written by wip/myprint.py: the kit's print, with contracts of this session's own among the functions.
import Derived.Test.YtigjcobannhdlaaRows
import Derived.Test.YtigjcobannhdlaaPFnExactTuneTonex8
import Derived.Test.YtigjcobannhdlaaPureFnExactTuneTone
import Derived.WalkKit
import Derived.ProofKit
import Derived.OpenShut
import Derived.ShutString
import Derived.ChangeOld
import Derived.Below
import Derived.SizedLaws
import Derived.Lib.SmallJoins
import Derived.Deep.SlicePairs
import Derived.Deep.Matrix
namespace Go.Proofs.Ytigjcobannhdlaa.fnExactTuneTone
open Go.ChangeShapes Go.WideShapes Go.ChangeAt Go.RowKit Go.Joins
open Go.ChangeMaps (open_string shut_string)
open Go.Proofs.YtigjcobannhdlaaW.PrintWords Go.Proofs.YtigjcobannhdlaaW.PrintMore Go.Proofs.Ytigjcobannhdlaa.PFnExactTuneTone
set_option linter.unusedVariables false
theorem own : ownKnob Try.prog.godebug = none := by kernel_rfl
theorem laidOut : laidOutB Try.prog = true := by kernel_rfl
theorem cells31 : Try.prog.cellsOf 31 = 2 := by kernel_rfl
theorem cells38 : Try.prog.cellsOf 38 = 2 := by kernel_rfl
theorem one2 : Try.prog.cellsOf 2 = 1 := by kernel_rfl
theorem one9 : Try.prog.cellsOf 9 = 1 := by kernel_rfl
theorem one29 : Try.prog.cellsOf 29 = 1 := by kernel_rfl
theorem list2 {l : List Value} (h : l.length = 2) : ∃ a0 a1, l = [a0, a1] := by
  match l, h with
  | [a0, a1], _ => exact ⟨a0, a1, rfl⟩
/-- A slice of pairs that came in, as the walk reads it. -/
theorem rd29 {H : Type} {enc : TypeId × Value → H} {W : World} {fuel : Nat} {v : Value} {x : DataW H × List MemPlace} (h : DataW.trod enc Try.prog W 0 (fun _ => true) true fuel 29 [v] = some x) : ∃ (A : Option Addr) (c : Nat) (l : List S38), v = .slice A l.length c ∧ l.length ≤ c ∧ l.length ≤ maxLen ∧ Kd.C k38 W A l.length l := by
  rcases Go.Deep.open_slice_pairs Try.underlying29 Try.underlying38 (by kernel_rfl) rfl rfl (by kernel_rfl) (by kernel_rfl) h with ⟨hcs, _⟩ | ⟨a, len, cap, m, n, V0, V1, D0, D1, P0, P1, hcs, _, hl, hm, hmm, _, hx⟩
  · obtain rfl : v = .slice none 0 0 := by simpa using hcs
    exact ⟨none, 0, [], rfl, Nat.le_refl _, Nat.zero_le _, Kd.C_nil _ _⟩
  · obtain rfl : v = .slice (some a) len cap := by simpa using hcs
    have each : ∀ i, i < len → ∃ q : Int × Int, W.cell? (a.add (i * 2)) = some (.int .i64 q.1) ∧ W.cell? (a.add (i * 2 + 1)) = some (.int .i64 q.2) := by
      intro i hi
      obtain ⟨h0, h1, t0, t1⟩ := hx i (by simp at hmm; omega)
      obtain ⟨x0, e0, _, _⟩ := DataW.trod_int Try.underlying2 t0
      obtain ⟨x1, e1, _, _⟩ := DataW.trod_int Try.underlying2 t1
      obtain e0 : V0 i = .int .i64 x0 := by simpa using e0
      obtain e1 : V1 i = .int .i64 x1 := by simpa using e1
      exact ⟨(x0, x1), by rw [h0, e0], by rw [h1, e1]⟩
    obtain ⟨F, hF⟩ := Go.Deep.choose_lt each
    have hlen : ((List.range len).map fun i => (⟨(F i).1, (F i).2⟩ : S38)).length = len := by simp
    refine ⟨some a, cap, (List.range len).map fun i => (⟨(F i).1, (F i).2⟩ : S38), by rw [hlen], by rw [hlen]; exact hl, by rw [hlen]; exact Nat.le_trans hl hm, ?_⟩
    rw [hlen]
    refine ⟨hlen, by unfold maxLen at hm; omega, fun hn => ⟨a, rfl, fun j p hj => ?_⟩⟩
    obtain ⟨hjl, hjp⟩ := List.getElem?_eq_some_iff.1 hj
    have hjn : j < len := by rw [hlen] at hjl; exact hjl
    obtain rfl : (⟨(F j).1, (F j).2⟩ : S38) = p := by simpa using hjp
    refine ⟨_, rfl, k38_mk W _, fun i u hu => ?_⟩
    match i, hu with
    | 0, hu => obtain rfl : Value.int .i64 (F j).1 = u := by simpa using hu
               exact (hF j hjn).1
    | 1, hu => obtain rfl : Value.int .i64 (F j).2 = u := by simpa using hu
               exact (hF j hjn).2
    | i + 2, hu => simp at hu
set_option maxRecDepth 100000 in
theorem lifted (os : Os) (started : os.Started) (H : Type) (enc : TypeId × Value → H) :
    ReturnsInHanded {} Try.checked os 6 .any (Rows.fnExactTuneToneSpec.pre6 enc Try.prog Try.f6 Rows.fnExactTuneToneRow.domain false) (Rows.fnExactTuneToneSpec.post enc Try.prog Try.f6 false true false false) := by
  refine returnsInHanded_of_change_sized (C := Try.checked) own started (by kernel_rfl) Try.func6
    (ChangeSpec.witness6 (enc := enc) (C := Try.checked) false ⟨#[], #[.agg #[.string ByteArray.empty, .slice none 0 0], .int .i64 0, .agg #[.int .i64 0, .int .i64 0]], []⟩ 8 (by kernel_rfl) (by kernel_rfl) (by kernel_rfl) (by kernel_rfl)) ?_
  intro W base args ds gs before hval0 hW hcnd hsz0 _
  have hsz : (DataW.weightsEach Try.prog (Try.f6.params.toList ++ Rows.fnExactTuneToneSpec.plain.varTypes Try.prog) (ds ++ gs)).all (· ≤ reachBytes) = true := hsz0
  have hval : ∀ (j : Nat) t v, Try.f6.params[j]? = some t → args[j]? = some v → Value.okWide Try.prog W .any base t v := hval0
  have hW' := hW
  obtain ⟨p, q, hA0, hV, rfl, hfz, hnd⟩ := hW
  have hA : DataW.TrodAll enc Try.prog W 0 (fun _ => true) true Try.f6.params.toList args.toList ds p := hA0
  rw [Try.params6] at hA hval hsz
  obtain ⟨v0, vs0, d0, ds0, p0, q0, hargs, rfl, rfl, h0, r0⟩ := trodAll_cons hA
  obtain ⟨v1, vs1, d1, ds1, p1, q1, rfl, rfl, rfl, h1, r1⟩ := trodAll_cons r0
  obtain ⟨v2, vs2, d2, ds2, p2, q2, rfl, rfl, rfl, h2, r2⟩ := trodAll_cons r1
  obtain ⟨rfl, rfl, rfl⟩ := trodAll_nil r2
  obtain rfl : args = #[v0, v1, v2] := by cases args; simp_all
  obtain ⟨rfl, rfl⟩ := trodVars_none hV
  have k0 := h0
  have lt0 : ∀ x ∈ p0, x.block < W.heap.size := by obtain ⟨m, hm⟩ := k0; exact DataW.trod_lt m _ _ _ hm
  obtain ⟨cs0, rfl, hs0⟩ := okWide_struct Try.underlying31 (hval 0 31 v0 rfl rfl)
  obtain ⟨ls0⟩ := cs0
  obtain ⟨c0_0, c0_1, rfl⟩ := list2 (hs0.trans cells31)
  clear hs0
  obtain ⟨fuel0, hf0⟩ := h0
  obtain ⟨xs0, n0, _, _, _, hlen0, hg0⟩ := DataW.trod_struct Try.underlying31 hf0
  have g0_0 : DataW.trod enc Try.prog W 0 (fun _ => true) true n0 9 ((([c0_0, c0_1] : List Value).drop 0).take (Try.prog.cellsOf 9)) = xs0[0]? := hg0 0 _ rfl
  rw [one9, List.getElem?_eq_getElem (show 0 < xs0.length by rw [hlen0]; decide)] at g0_0
  replace g0_0 : DataW.trod enc Try.prog W 0 (fun _ => true) true n0 9 [c0_0] = some _ := g0_0
  obtain ⟨a0_0, e0_0, _, w0_0⟩ := DataW.trod_string Try.underlying9 g0_0
  obtain rfl : c0_0 = .string a0_0 := by simpa using e0_0
  clear e0_0
  have g0_1 : DataW.trod enc Try.prog W 0 (fun _ => true) true n0 29 ((([.string a0_0, c0_1] : List Value).drop 1).take (Try.prog.cellsOf 29)) = xs0[1]? := hg0 1 _ rfl
  rw [one29, List.getElem?_eq_getElem (show 1 < xs0.length by rw [hlen0]; decide)] at g0_1
  replace g0_1 : DataW.trod enc Try.prog W 0 (fun _ => true) true n0 29 [c0_1] = some _ := g0_1
  obtain ⟨A0_1, cp0_1, l0_1, rfl, hc0_1, hm0_1, hr0_1⟩ := rd29 g0_1
  clear hg0
  have k1 := h1
  have lt1 : ∀ x ∈ p1, x.block < W.heap.size := by obtain ⟨m, hm⟩ := k1; exact DataW.trod_lt m _ _ _ hm
  obtain ⟨a1, rfl, rfl, rfl, w1⟩ := open_int Try.underlying2 (hval 1 2 v1 rfl rfl) h1
  have k2 := h2
  have lt2 : ∀ x ∈ p2, x.block < W.heap.size := by obtain ⟨m, hm⟩ := k2; exact DataW.trod_lt m _ _ _ hm
  obtain ⟨cs2, rfl, hs2⟩ := okWide_struct Try.underlying38 (hval 2 38 v2 rfl rfl)
  obtain ⟨ls2⟩ := cs2
  obtain ⟨c2_0, c2_1, rfl⟩ := list2 (hs2.trans cells38)
  clear hs2
  obtain ⟨fuel2, hf2⟩ := h2
  obtain ⟨xs2, n2, _, _, _, hlen2, hg2⟩ := DataW.trod_struct Try.underlying38 hf2
  have g2_0 : DataW.trod enc Try.prog W 0 (fun _ => true) true n2 2 ((([c2_0, c2_1] : List Value).drop 0).take (Try.prog.cellsOf 2)) = xs2[0]? := hg2 0 _ rfl
  rw [one2, List.getElem?_eq_getElem (show 0 < xs2.length by rw [hlen2]; decide)] at g2_0
  replace g2_0 : DataW.trod enc Try.prog W 0 (fun _ => true) true n2 2 [c2_0] = some _ := g2_0
  obtain ⟨a2_0, e2_0, _, w2_0⟩ := DataW.trod_int Try.underlying2 g2_0
  obtain rfl : c2_0 = .int .i64 a2_0 := by simpa using e2_0
  clear e2_0
  have g2_1 : DataW.trod enc Try.prog W 0 (fun _ => true) true n2 2 ((([.int .i64 a2_0, c2_1] : List Value).drop 1).take (Try.prog.cellsOf 2)) = xs2[1]? := hg2 1 _ rfl
  rw [one2, List.getElem?_eq_getElem (show 1 < xs2.length by rw [hlen2]; decide)] at g2_1
  replace g2_1 : DataW.trod enc Try.prog W 0 (fun _ => true) true n2 2 [c2_1] = some _ := g2_1
  obtain ⟨a2_1, e2_1, _, w2_1⟩ := DataW.trod_int Try.underlying2 g2_1
  obtain rfl : c2_1 = .int .i64 a2_1 := by simpa using e2_1
  clear e2_1
  clear hg2
  clear hA0 hval0 hsz0 hsz
  obtain ⟨k, h⟩ := Pure.FnExactTuneTone a0_0 l0_1 a1 a2_0 a2_1 w0_0 hm0_1 w1 w2_0 w2_1
  refine (laws_FnExactTuneTone.calls k a0_0 _ _ l0_1 a1 a2_0 a2_1 W (hr0_1) hc0_1 h).mono fun e W' ⟨he, hd⟩ => ?_
  have bel : Below W.heap.size W W' := hd
  subst he
  exact ⟨_, rfl, _, _, _, [], _, [], hW', trodAll_mk1 (shut_bool Try.underlying4 _), (trodAll_cons_mk (Below.trod laidOut (by kernel_rfl) (of_decide_eq_true (by kernel_rfl)) k0 bel lt0) (trodAll_cons_mk (Below.trod laidOut (by kernel_rfl) (of_decide_eq_true (by kernel_rfl)) k1 bel lt1) (trodAll_cons_mk (Below.trod laidOut (by kernel_rfl) (of_decide_eq_true (by kernel_rfl)) k2 bel lt2) trodAll_mk0))), rfl, bel.frame _, fun h => by cases h⟩
theorem over : Rows.fnExactTuneToneRow.holds Try.pinned (OpenSpec.ofChange Rows.fnExactTuneToneSpec) :=
  OpenClaim.holds_of_wide 6 Try.f6 rfl rfl rfl rfl rfl rfl rfl ⟨rfl, rfl, rfl, rfl, rfl⟩ rfl rfl rfl rfl rfl (by kernel_rfl) Try.func6 (by kernel_rfl)
    (of_decide_eq_true (by kernel_rfl)) (by unfold Func.isWrapper; first | (rw [if_pos (by decide +kernel)]; kernel_rfl) | (rw [if_neg (by decide +kernel)]; exact ⟨rfl, rfl⟩))
    (fun os started H enc _ => lifted os started H enc)
theorem proved : Rows.FnExactTuneToneSaid := over
#print axioms proved
end Go.Proofs.Ytigjcobannhdlaa.fnExactTuneTone
namespace Go.Proofs.Ytigjcobannhdlaa
/-- The row, under a short name, for the claim. -/
theorem fnExactTuneTone_holds : Rows.FnExactTuneToneSaid := fnExactTuneTone.proved
end Go.Proofs.Ytigjcobannhdlaa
