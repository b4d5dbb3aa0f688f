-- Written by wip/myprint.py: the kit's print, with contracts of this session's own among the functions.
import Derived.Test.YtigjcobannhdlaaDoorCards
import Derived.Test.YtigjcobannhdlaaDoorTie
import Derived.Test.YtigjcobannhdlaaDoorPFnExactEqualErrorsx10
import Derived.Test.YtigjcobannhdlaaDoorPureFnExactEqualErrors
import Derived.WalkKit
import Derived.ProofKit
import Derived.OpenShut
import Derived.ShutString
import Derived.ChangeOld
import Derived.Below
import Derived.SizedLaws
import Derived.Deep.DeepHandedRow
import Derived.Lib.LaidTab
import Derived.LaidSub
import Derived.SevenTiedAt
import Derived.OpenVars
import Derived.Lib.SmallJoins
import Derived.Deep.SlicePairs
import Derived.Deep.Matrix
namespace Go.Proofs.YtigjcobannhdlaaDoor.fnExactEqualErrors
open Go.ChangeShapes Go.WideShapes Go.ChangeAt Go.RowKit Go.Joins
open Go.ChangeMaps (open_string shut_string)
open Go.Proofs.YtigjcobannhdlaaDoorW.PrintWords Go.Proofs.YtigjcobannhdlaaDoorW.PrintMore Go.Proofs.YtigjcobannhdlaaDoor.PFnExactEqualErrors
set_option linter.unusedVariables false
theorem own : ownKnob Tryd.prog.godebug = none := by kernel_rfl
theorem laidOut : laidOutB Tryd.prog = true := by kernel_rfl
theorem cells24 : Tryd.prog.cellsOf 24 = 2 := by kernel_rfl
theorem one9 : Tryd.prog.cellsOf 9 = 1 := by kernel_rfl
theorem one22 : Tryd.prog.cellsOf 22 = 1 := by kernel_rfl
theorem list2 {l : List Value} (h : l.length = 2) : ∃ a0 a1, l = [a0, a1] := by
  match l, h with
  | [a0, a1], _ => exact ⟨a0, a1, rfl⟩
/-- A slice of pairs that came in, as the walk reads it. -/
theorem rd22 {H : Type} {enc : TypeId × Value → H} {W : World} {fuel : Nat} {v : Value} {x : DataW H × List MemPlace} (h : DataW.trod enc Tryd.prog W 0 (fun _ => true) true fuel 22 [v] = some x) : ∃ (A : Option Addr) (c : Nat) (l : List S68), v = .slice A l.length c ∧ l.length ≤ c ∧ l.length ≤ maxLen ∧ Kd.C k68 W A l.length l := by
  rcases Go.Deep.open_slice_pairs Tryd.underlying22 Tryd.underlying68 (by kernel_rfl) rfl rfl (by kernel_rfl) (by kernel_rfl) h with ⟨hcs, _⟩ | ⟨a, len, cap, m, n, V0, V1, D0, D1, P0, P1, hcs, _, hl, hm, hmm, _, hx⟩
  · obtain rfl : v = .slice none 0 0 := by simpa using hcs
    exact ⟨none, 0, [], rfl, Nat.le_refl _, Nat.zero_le _, Kd.C_nil _ _⟩
  · obtain rfl : v = .slice (some a) len cap := by simpa using hcs
    have each : ∀ i, i < len → ∃ q : Int × Int, W.cell? (a.add (i * 2)) = some (.int .i64 q.1) ∧ W.cell? (a.add (i * 2 + 1)) = some (.int .i64 q.2) := by
      intro i hi
      obtain ⟨h0, h1, t0, t1⟩ := hx i (by simp at hmm; omega)
      obtain ⟨x0, e0, _, _⟩ := DataW.trod_int Tryd.underlying2 t0
      obtain ⟨x1, e1, _, _⟩ := DataW.trod_int Tryd.underlying2 t1
      obtain e0 : V0 i = .int .i64 x0 := by simpa using e0
      obtain e1 : V1 i = .int .i64 x1 := by simpa using e1
      exact ⟨(x0, x1), by rw [h0, e0], by rw [h1, e1]⟩
    obtain ⟨F, hF⟩ := Go.Deep.choose_lt each
    have hlen : ((List.range len).map fun i => (⟨(F i).1, (F i).2⟩ : S68)).length = len := by simp
    refine ⟨some a, cap, (List.range len).map fun i => (⟨(F i).1, (F i).2⟩ : S68), by rw [hlen], by rw [hlen]; exact hl, by rw [hlen]; exact Nat.le_trans hl hm, ?_⟩
    rw [hlen]
    refine ⟨hlen, by unfold maxLen at hm; omega, fun hn => ⟨a, rfl, fun j p hj => ?_⟩⟩
    obtain ⟨hjl, hjp⟩ := List.getElem?_eq_some_iff.1 hj
    have hjn : j < len := by rw [hlen] at hjl; exact hjl
    obtain rfl : (⟨(F j).1, (F j).2⟩ : S68) = p := by simpa using hjp
    refine ⟨_, rfl, k68_mk W _, fun i u hu => ?_⟩
    match i, hu with
    | 0, hu => obtain rfl : Value.int .i64 (F j).1 = u := by simpa using hu
               exact (hF j hjn).1
    | 1, hu => obtain rfl : Value.int .i64 (F j).2 = u := by simpa using hu
               exact (hF j hjn).2
    | i + 2, hu => simp at hu
theorem g0 : Tryd.prog.globalNamed "loop.example/g01033/impl.centsTable" = some 0 := by kernel_rfl
theorem gt0 : (Tryd.prog.globals[0]?).map (·.type) = some 81 := by kernel_rfl
theorem ce0 : Tryd.prog.cellsOf 81 = 33 := by kernel_rfl
theorem ca0 : Tryd.prog.cellsOf 2 = 1 := by kernel_rfl
/-- What the row's list gives. -/
theorem has_CentsTab {W : World} (h : laidMetH Tryd.prog Rows.fnExactEqualErrorsRow.laid W) : PFnExactEqualErrors.CentsTab W :=
  Lib.tabIs_of_head (rest := []) g0 gt0 Tryd.underlying81 Tryd.underlying2 ca0 ce0 (laidMetH.filter (fun x => x.1 == "loop.example/g01033/impl.centsTable") h)
set_option maxRecDepth 100000 in
theorem contract (H : Type) (enc : TypeId × Value → H) (W : World) (base : Nat) (args : Array Value) (ds gs : List (DataW H)) (before : List MemPlace)
    (hval0 : ∀ (j : Nat) t v, Tryd.f6.params[j]? = some t → args[j]? = some v → Value.okWide Tryd.prog W .any base t v)
    (hW : DataW.Whole enc Tryd.prog Tryd.f6.params.toList Rows.fnExactEqualErrorsSpec.vars false W args.toList ds gs before) (hsz0 : (DataW.weightsEach Tryd.prog (Tryd.f6.params.toList ++ Rows.fnExactEqualErrorsSpec.plain.varTypes Tryd.prog) (ds ++ gs)).all (· ≤ reachBytes) = true) (hL : laidMetH Tryd.prog Rows.fnExactEqualErrorsRow.laid W) (hsh : W.ShapedOpen Tryd.prog) :
    Calls Tryd.prog 6 args W fun e W' => ∃ v, e = .returned v ∧ Rows.fnExactEqualErrorsSpec.post enc Tryd.prog Tryd.f6 false true false false W args v W' := by
  have hsz : (DataW.weightsEach Tryd.prog (Tryd.f6.params.toList ++ Rows.fnExactEqualErrorsSpec.plain.varTypes Tryd.prog) (ds ++ gs)).all (· ≤ reachBytes) = true := hsz0
  have hval : ∀ (j : Nat) t v, Tryd.f6.params[j]? = some t → args[j]? = some v → Value.okWide Tryd.prog W .any base t v := hval0
  have hW' := hW
  obtain ⟨p, q, hA0, hV, rfl, hfz, hnd⟩ := hW
  have hA : DataW.TrodAll enc Tryd.prog W 0 (fun _ => true) true Tryd.f6.params.toList args.toList ds p := hA0
  rw [Tryd.params6] at hA hval hsz
  obtain ⟨v0, vs0, d0, ds0, p0, q0, hargs, rfl, rfl, h0, r0⟩ := trodAll_cons hA
  obtain ⟨rfl, rfl, rfl⟩ := trodAll_nil r0
  obtain rfl : args = #[v0] := by cases args; simp_all
  obtain ⟨gd, rfl⟩ : ∃ gd, gs = [gd] := by
    obtain ⟨_, _, _, _, d, _, hgd, _⟩ := trodVars_one hV
    exact ⟨d, hgd⟩
  have k0 := h0
  have lt0 : ∀ x ∈ p0, x.block < W.heap.size := by obtain ⟨m, hm⟩ := k0; exact DataW.trod_lt m _ _ _ hm
  obtain ⟨cs0, rfl, hs0⟩ := okWide_struct Tryd.underlying24 (hval 0 24 v0 rfl rfl)
  obtain ⟨ls0⟩ := cs0
  obtain ⟨c0_0, c0_1, rfl⟩ := list2 (hs0.trans cells24)
  clear hs0
  obtain ⟨fuel0, hf0⟩ := h0
  obtain ⟨xs0, n0, _, _, _, hlen0, hg0⟩ := DataW.trod_struct Tryd.underlying24 hf0
  have g0_0 : DataW.trod enc Tryd.prog W 0 (fun _ => true) true n0 9 ((([c0_0, c0_1] : List Value).drop 0).take (Tryd.prog.cellsOf 9)) = xs0[0]? := hg0 0 _ rfl
  rw [one9, List.getElem?_eq_getElem (show 0 < xs0.length by rw [hlen0]; decide)] at g0_0
  replace g0_0 : DataW.trod enc Tryd.prog W 0 (fun _ => true) true n0 9 [c0_0] = some _ := g0_0
  obtain ⟨a0_0, e0_0, _, w0_0⟩ := DataW.trod_string Tryd.underlying9 g0_0
  obtain rfl : c0_0 = .string a0_0 := by simpa using e0_0
  clear e0_0
  have g0_1 : DataW.trod enc Tryd.prog W 0 (fun _ => true) true n0 22 ((([.string a0_0, c0_1] : List Value).drop 1).take (Tryd.prog.cellsOf 22)) = xs0[1]? := hg0 1 _ rfl
  rw [one22, List.getElem?_eq_getElem (show 1 < xs0.length by rw [hlen0]; decide)] at g0_1
  replace g0_1 : DataW.trod enc Tryd.prog W 0 (fun _ => true) true n0 22 [c0_1] = some _ := g0_1
  obtain ⟨A0_1, cp0_1, l0_1, rfl, hc0_1, hm0_1, hr0_1⟩ := rd22 g0_1
  clear hg0
  clear hA0 hval0 hsz0 hsz
  obtain ⟨k, h⟩ := Pure.FnExactEqualErrors a0_0 l0_1 w0_0 hm0_1
  refine (laws_FnExactEqualErrors.calls k a0_0 _ _ l0_1 W (hr0_1) hc0_1 (has_CentsTab hL) h).mono fun e W' ⟨he, hd⟩ => ?_
  have bel : Below W.heap.size W W' := hd
  subst he
  exact ⟨_, rfl, _, _, _, [], _, _, hW', trodAll_mk1 (shut_bool Tryd.underlying4 _), (trodAll_cons_mk (Below.trod laidOut (by kernel_rfl) (of_decide_eq_true (by kernel_rfl)) k0 bel lt0) trodAll_mk0), Below.trodVars laidOut bel (by kernel_rfl) hV, bel.frame _, fun h => by cases h⟩
/-- A world for the witness: the settled one, the listed tables holding what their initialisers lay. -/
noncomputable def laidWorld (os : Os) : World := { World.holding Tryd.prog os ⟨#[], #[], []⟩ with heap := ((World.holding Tryd.prog os ⟨#[], #[], []⟩).heap.modify 0 fun
      | .cells _ t frozen => .cells #[.int .i64 0, .int .i64 5327, .int .i64 10496, .int .i64 15514, .int .i64 20391, .int .i64 25134, .int .i64 29751, .int .i64 34248, .int .i64 38631, .int .i64 42906, .int .i64 47078, .int .i64 51152, .int .i64 55132, .int .i64 59022, .int .i64 62827, .int .i64 66551, .int .i64 70196, .int .i64 73765, .int .i64 77263, .int .i64 80691, .int .i64 84053, .int .i64 87350, .int .i64 90587, .int .i64 93763, .int .i64 96883, .int .i64 99947, .int .i64 102958, .int .i64 105917, .int .i64 108827, .int .i64 111688, .int .i64 114504, .int .i64 117274, .int .i64 120000] t frozen
      | o => o) }
set_option maxRecDepth 100000 in
theorem laid_met (os : Os) : laidMet Tryd.prog Rows.fnExactEqualErrorsRow.laid ((laidWorld os).forCall (fun _ _ => 0) ⟨#[], #[.agg #[.string ByteArray.empty, .slice none 0 0]], []⟩).memory :=
  laidMet_of_run' 8 (by kernel_rfl) (by kernel_rfl)
set_option maxRecDepth 100000 in
theorem reads (os : Os) {H : Type} (enc : TypeId × Value → H) : ∃ places, DataW.whole enc Tryd.prog ((laidWorld os).forCall (fun _ _ => 0) ⟨#[], #[.agg #[.string ByteArray.empty, .slice none 0 0]], []⟩).memory Tryd.f6.params.toList Rows.fnExactEqualErrorsSpec.vars false (#[.agg #[.string ByteArray.empty, .slice none 0 0]] : Array Value).toList 8 = some ([.agg [.lit (.string []), .nil]], [Rows.laid_loop_example_g01033_impl_centsTable], places) :=
  ⟨MemPlace.row ⟨0, 0, none⟩ 33, by kernel_rfl⟩
set_option maxRecDepth 100000 in
theorem lifted (os : Os) (started : os.Started) (H : Type) (enc : TypeId × Value → H) (F : Stop.Interp) :
    ReturnsInHanded {} Tryd.checked os 6 .any ((OpenSpec.ofChange Rows.fnExactEqualErrorsSpec).preRow enc Tryd.prog Tryd.f6 Rows.fnExactEqualErrorsRow.domain false Rows.fnExactEqualErrorsRow.laid) (((OpenSpec.ofChange Rows.fnExactEqualErrorsSpec).at F).post enc Tryd.prog Tryd.f6 false true false false) := by
  obtain ⟨places, hx⟩ := reads os enc
  refine returnsInHanded_of_row (C := Tryd.checked) (s := OpenSpec.ofChange Rows.fnExactEqualErrorsSpec) own started (by kernel_rfl) Tryd.func6
    (witness_row_at (enc := enc) (C := Tryd.checked) false (laidWorld os) #[.agg #[.string ByteArray.empty, .slice none 0 0]] rfl (by kernel_rfl) (by kernel_rfl) (by kernel_rfl)
      (OpenSpec.preRow_of_cond 8 hx (by kernel_rfl) (fun k hk => by cases hk) (by kernel_rfl) (laid_met os))) ?_
  intro W base args ds gs before hval hW _ _ hz hL hsh _
  exact contract H enc W base args ds gs before hval hW hz hL hsh
theorem over : Rows.fnExactEqualErrorsRow.holds Tryd.pinned (OpenSpec.ofChange Rows.fnExactEqualErrorsSpec) :=
  OpenClaim.holds_of_cond 6 Tryd.f6 rfl rfl rfl rfl rfl rfl rfl ⟨rfl, rfl, rfl, rfl, rfl⟩ rfl rfl rfl rfl rfl (by kernel_rfl) Tryd.func6 (by kernel_rfl)
    (of_decide_eq_true (by kernel_rfl)) (by unfold Func.isWrapper; first | (rw [if_pos (by decide +kernel)]; kernel_rfl) | (rw [if_neg (by decide +kernel)]; exact ⟨rfl, rfl⟩))
    (fun os started H enc _ F => by rw [OpenClaim.pre_eq_preRow]; exact lifted os started H enc F)
theorem plain (f : FuncId) (fn : Func) (hf : Tryd.pinned.checked.prog.funcNamed "loop.example/g01033/laws.FnExactEqualErrors" = some f) (hfn : Tryd.pinned.checked.prog.funcs[f]? = some fn) :
    false = Tryd.pinned.checked.prog.looks [] ∧ ∀ (j : Nat) t, fn.params[j]? = some t → Tryd.pinned.checked.prog.wantsStandIn t = false := by
  obtain rfl : f = 6 := Option.some.inj ((show Tryd.prog.funcNamed "loop.example/g01033/laws.FnExactEqualErrors" = some 6 by kernel_rfl).symm.trans hf) |>.symm
  obtain rfl : fn = Tryd.f6 := (Option.some.inj (Tryd.func6.symm.trans hfn)).symm
  refine ⟨by kernel_rfl, fun j t ht => ?_⟩
  have all : (Tryd.f6.params.toList.all fun t => !Tryd.prog.wantsStandIn t) = true := by kernel_rfl
  have hm := List.all_eq_true.mp all t (Array.mem_toList_iff.mpr (Array.mem_of_getElem? ht))
  exact (by simpa using hm : Tryd.prog.wantsStandIn t = false)
theorem card : Rows.FnExactEqualErrorsCardSaid :=
  Claim7.holds_tied_plain_at .later [] _ _ _ _ over (fun _ h => by cases h) (by kernel_rfl) (fun _ h => by cases h) fnExactEqualErrors_row_tie rfl ⟨rfl, rfl⟩ (by kernel_rfl) rfl plain (by kernel_rfl)
theorem proved : Rows.FnExactEqualErrorsCardSaid := card
#print axioms proved
end Go.Proofs.YtigjcobannhdlaaDoor.fnExactEqualErrors
namespace Go.Proofs.YtigjcobannhdlaaDoor
/-- The row, under a short name, for the claim. -/
theorem fnExactEqualErrors_holds : Rows.FnExactEqualErrorsCardSaid := fnExactEqualErrors.proved
end Go.Proofs.YtigjcobannhdlaaDoor
