-- Written by wip/myprint.py: the kit's print, with contracts of this session's own among the functions.
import Derived.Test.YtojmkelgbcnfmaaDoorCards
import Derived.Test.YtojmkelgbcnfmaaDoorTie
import Derived.Test.YtojmkelgbcnfmaaDoorPFnExactCentsOfx3
import Derived.Test.YtojmkelgbcnfmaaDoorPureFnExactCentsOf
import Derived.WalkKit
import Derived.ProofKit
import Derived.OpenShut
import Derived.ShutString
import Derived.ChangeOld
import Derived.Below
import Derived.SizedLaws
import Derived.Deep.DeepHandedRow
import Derived.Lib.LaidTab
import Derived.LaidSub
import Derived.SevenTiedAt
import Derived.OpenVars
import Derived.Lib.SmallJoins
import Derived.Deep.SlicePairs
import Derived.Deep.Matrix
namespace Go.Proofs.YtojmkelgbcnfmaaDoor.fnExactCentsOf
open Go.ChangeShapes Go.WideShapes Go.ChangeAt Go.RowKit Go.Joins
open Go.ChangeMaps (open_string shut_string)
open Go.Proofs.YtojmkelgbcnfmaaDoorW.PrintWords Go.Proofs.YtojmkelgbcnfmaaDoorW.PrintMore Go.Proofs.YtojmkelgbcnfmaaDoor.PFnExactCentsOf
set_option linter.unusedVariables false
theorem own : ownKnob Tryd.prog.godebug = none := by kernel_rfl
theorem laidOut : laidOutB Tryd.prog = true := by kernel_rfl
theorem cells23 : Tryd.prog.cellsOf 23 = 2 := by kernel_rfl
theorem one2 : Tryd.prog.cellsOf 2 = 1 := by kernel_rfl
theorem list2 {l : List Value} (h : l.length = 2) : ∃ a0 a1, l = [a0, a1] := by
  match l, h with
  | [a0, a1], _ => exact ⟨a0, a1, rfl⟩
theorem g0 : Tryd.prog.globalNamed "loop.example/g01033/impl.centsTable" = some 0 := by kernel_rfl
theorem gt0 : (Tryd.prog.globals[0]?).map (·.type) = some 50 := by kernel_rfl
theorem ce0 : Tryd.prog.cellsOf 50 = 33 := by kernel_rfl
theorem ca0 : Tryd.prog.cellsOf 2 = 1 := by kernel_rfl
/-- What the row's list gives. -/
theorem has_CentsTab {W : World} (h : laidMetH Tryd.prog Rows.fnExactCentsOfRow.laid W) : PFnExactCentsOf.CentsTab W :=
  Lib.tabIs_of_head (rest := []) g0 gt0 Tryd.underlying50 Tryd.underlying2 ca0 ce0 (laidMetH.filter (fun x => x.1 == "loop.example/g01033/impl.centsTable") h)
set_option maxRecDepth 100000 in
theorem contract (H : Type) (enc : TypeId × Value → H) (W : World) (base : Nat) (args : Array Value) (ds gs : List (DataW H)) (before : List MemPlace)
    (hval0 : ∀ (j : Nat) t v, Tryd.f3.params[j]? = some t → args[j]? = some v → Value.okWide Tryd.prog W .any base t v)
    (hW : DataW.Whole enc Tryd.prog Tryd.f3.params.toList Rows.fnExactCentsOfSpec.vars false W args.toList ds gs before) (hsz0 : (DataW.weightsEach Tryd.prog (Tryd.f3.params.toList ++ Rows.fnExactCentsOfSpec.plain.varTypes Tryd.prog) (ds ++ gs)).all (· ≤ reachBytes) = true) (hL : laidMetH Tryd.prog Rows.fnExactCentsOfRow.laid W) (hsh : W.ShapedOpen Tryd.prog) :
    Calls Tryd.prog 3 args W fun e W' => ∃ v, e = .returned v ∧ Rows.fnExactCentsOfSpec.post enc Tryd.prog Tryd.f3 false true false false W args v W' := by
  have hsz : (DataW.weightsEach Tryd.prog (Tryd.f3.params.toList ++ Rows.fnExactCentsOfSpec.plain.varTypes Tryd.prog) (ds ++ gs)).all (· ≤ reachBytes) = true := hsz0
  have hval : ∀ (j : Nat) t v, Tryd.f3.params[j]? = some t → args[j]? = some v → Value.okWide Tryd.prog W .any base t v := hval0
  have hW' := hW
  obtain ⟨p, q, hA0, hV, rfl, hfz, hnd⟩ := hW
  have hA : DataW.TrodAll enc Tryd.prog W 0 (fun _ => true) true Tryd.f3.params.toList args.toList ds p := hA0
  rw [Tryd.params3] at hA hval hsz
  obtain ⟨v0, vs0, d0, ds0, p0, q0, hargs, rfl, rfl, h0, r0⟩ := trodAll_cons hA
  obtain ⟨rfl, rfl, rfl⟩ := trodAll_nil r0
  obtain rfl : args = #[v0] := by cases args; simp_all
  obtain ⟨gd, rfl⟩ : ∃ gd, gs = [gd] := by
    obtain ⟨_, _, _, _, d, _, hgd, _⟩ := trodVars_one hV
    exact ⟨d, hgd⟩
  have k0 := h0
  have lt0 : ∀ x ∈ p0, x.block < W.heap.size := by obtain ⟨m, hm⟩ := k0; exact DataW.trod_lt m _ _ _ hm
  obtain ⟨cs0, rfl, hs0⟩ := okWide_struct Tryd.underlying23 (hval 0 23 v0 rfl rfl)
  obtain ⟨ls0⟩ := cs0
  obtain ⟨c0_0, c0_1, rfl⟩ := list2 (hs0.trans cells23)
  clear hs0
  obtain ⟨fuel0, hf0⟩ := h0
  obtain ⟨xs0, n0, _, _, _, hlen0, hg0⟩ := DataW.trod_struct Tryd.underlying23 hf0
  have g0_0 : DataW.trod enc Tryd.prog W 0 (fun _ => true) true n0 2 ((([c0_0, c0_1] : List Value).drop 0).take (Tryd.prog.cellsOf 2)) = xs0[0]? := hg0 0 _ rfl
  rw [one2, List.getElem?_eq_getElem (show 0 < xs0.length by rw [hlen0]; decide)] at g0_0
  replace g0_0 : DataW.trod enc Tryd.prog W 0 (fun _ => true) true n0 2 [c0_0] = some _ := g0_0
  obtain ⟨a0_0, e0_0, _, w0_0⟩ := DataW.trod_int Tryd.underlying2 g0_0
  obtain rfl : c0_0 = .int .i64 a0_0 := by simpa using e0_0
  clear e0_0
  have g0_1 : DataW.trod enc Tryd.prog W 0 (fun _ => true) true n0 2 ((([.int .i64 a0_0, c0_1] : List Value).drop 1).take (Tryd.prog.cellsOf 2)) = xs0[1]? := hg0 1 _ rfl
  rw [one2, List.getElem?_eq_getElem (show 1 < xs0.length by rw [hlen0]; decide)] at g0_1
  replace g0_1 : DataW.trod enc Tryd.prog W 0 (fun _ => true) true n0 2 [c0_1] = some _ := g0_1
  obtain ⟨a0_1, e0_1, _, w0_1⟩ := DataW.trod_int Tryd.underlying2 g0_1
  obtain rfl : c0_1 = .int .i64 a0_1 := by simpa using e0_1
  clear e0_1
  clear hg0
  clear hA0 hval0 hsz0 hsz
  obtain ⟨k, h⟩ := Pure.FnExactCentsOf a0_0 a0_1 w0_0 w0_1
  refine (laws_FnExactCentsOf.calls k a0_0 a0_1 W (has_CentsTab hL) h).mono fun e W' ⟨he, hd⟩ => ?_
  have bel : Below W.heap.size W W' := hd
  subst he
  exact ⟨_, rfl, _, _, _, [], _, _, hW', trodAll_mk1 (shut_bool Tryd.underlying4 _), (trodAll_cons_mk (Below.trod laidOut (by kernel_rfl) (of_decide_eq_true (by kernel_rfl)) k0 bel lt0) trodAll_mk0), Below.trodVars laidOut bel (by kernel_rfl) hV, bel.frame _, fun h => by cases h⟩
/-- A world for the witness: the settled one, the listed tables holding what their initialisers lay. -/
noncomputable def laidWorld (os : Os) : World := { World.holding Tryd.prog os ⟨#[], #[], []⟩ with heap := ((World.holding Tryd.prog os ⟨#[], #[], []⟩).heap.modify 0 fun
      | .cells _ t frozen => .cells #[.int .i64 0, .int .i64 5327, .int .i64 10496, .int .i64 15514, .int .i64 20391, .int .i64 25134, .int .i64 29751, .int .i64 34248, .int .i64 38631, .int .i64 42906, .int .i64 47078, .int .i64 51152, .int .i64 55132, .int .i64 59022, .int .i64 62827, .int .i64 66551, .int .i64 70196, .int .i64 73765, .int .i64 77263, .int .i64 80691, .int .i64 84053, .int .i64 87350, .int .i64 90587, .int .i64 93763, .int .i64 96883, .int .i64 99947, .int .i64 102958, .int .i64 105917, .int .i64 108827, .int .i64 111688, .int .i64 114504, .int .i64 117274, .int .i64 120000] t frozen
      | o => o) }
set_option maxRecDepth 100000 in
theorem laid_met (os : Os) : laidMet Tryd.prog Rows.fnExactCentsOfRow.laid ((laidWorld os).forCall (fun _ _ => 0) ⟨#[], #[.agg #[.int .i64 0, .int .i64 0]], []⟩).memory :=
  laidMet_of_run' 8 (by kernel_rfl) (by kernel_rfl)
set_option maxRecDepth 100000 in
theorem reads (os : Os) {H : Type} (enc : TypeId × Value → H) : ∃ places, DataW.whole enc Tryd.prog ((laidWorld os).forCall (fun _ _ => 0) ⟨#[], #[.agg #[.int .i64 0, .int .i64 0]], []⟩).memory Tryd.f3.params.toList Rows.fnExactCentsOfSpec.vars false (#[.agg #[.int .i64 0, .int .i64 0]] : Array Value).toList 8 = some ([.agg [.lit (.int .i64 0), .lit (.int .i64 0)]], [Rows.laid_loop_example_g01033_impl_centsTable], places) :=
  ⟨MemPlace.row ⟨0, 0, none⟩ 33, by kernel_rfl⟩
set_option maxRecDepth 100000 in
theorem lifted (os : Os) (started : os.Started) (H : Type) (enc : TypeId × Value → H) (F : Stop.Interp) :
    ReturnsInHanded {} Tryd.checked os 3 .any ((OpenSpec.ofChange Rows.fnExactCentsOfSpec).preRow enc Tryd.prog Tryd.f3 Rows.fnExactCentsOfRow.domain false Rows.fnExactCentsOfRow.laid) (((OpenSpec.ofChange Rows.fnExactCentsOfSpec).at F).post enc Tryd.prog Tryd.f3 false true false false) := by
  obtain ⟨places, hx⟩ := reads os enc
  refine returnsInHanded_of_row (C := Tryd.checked) (s := OpenSpec.ofChange Rows.fnExactCentsOfSpec) own started (by kernel_rfl) Tryd.func3
    (witness_row_at (enc := enc) (C := Tryd.checked) false (laidWorld os) #[.agg #[.int .i64 0, .int .i64 0]] rfl (by kernel_rfl) (by kernel_rfl) (by kernel_rfl)
      (OpenSpec.preRow_of_cond 8 hx (by kernel_rfl) (fun k hk => by cases hk) (by kernel_rfl) (laid_met os))) ?_
  intro W base args ds gs before hval hW _ _ hz hL hsh _
  exact contract H enc W base args ds gs before hval hW hz hL hsh
theorem over : Rows.fnExactCentsOfRow.holds Tryd.pinned (OpenSpec.ofChange Rows.fnExactCentsOfSpec) :=
  OpenClaim.holds_of_cond 3 Tryd.f3 rfl rfl rfl rfl rfl rfl rfl ⟨rfl, rfl, rfl, rfl, rfl⟩ rfl rfl rfl rfl rfl (by kernel_rfl) Tryd.func3 (by kernel_rfl)
    (of_decide_eq_true (by kernel_rfl)) (by unfold Func.isWrapper; first | (rw [if_pos (by decide +kernel)]; kernel_rfl) | (rw [if_neg (by decide +kernel)]; exact ⟨rfl, rfl⟩))
    (fun os started H enc _ F => by rw [OpenClaim.pre_eq_preRow]; exact lifted os started H enc F)
theorem plain (f : FuncId) (fn : Func) (hf : Tryd.pinned.checked.prog.funcNamed "loop.example/g01033/laws.FnExactCentsOf" = some f) (hfn : Tryd.pinned.checked.prog.funcs[f]? = some fn) :
    false = Tryd.pinned.checked.prog.looks [] ∧ ∀ (j : Nat) t, fn.params[j]? = some t → Tryd.pinned.checked.prog.wantsStandIn t = false := by
  obtain rfl : f = 3 := Option.some.inj ((show Tryd.prog.funcNamed "loop.example/g01033/laws.FnExactCentsOf" = some 3 by kernel_rfl).symm.trans hf) |>.symm
  obtain rfl : fn = Tryd.f3 := (Option.some.inj (Tryd.func3.symm.trans hfn)).symm
  refine ⟨by kernel_rfl, fun j t ht => ?_⟩
  have all : (Tryd.f3.params.toList.all fun t => !Tryd.prog.wantsStandIn t) = true := by kernel_rfl
  have hm := List.all_eq_true.mp all t (Array.mem_toList_iff.mpr (Array.mem_of_getElem? ht))
  exact (by simpa using hm : Tryd.prog.wantsStandIn t = false)
theorem card : Rows.FnExactCentsOfCardSaid :=
  Claim7.holds_tied_plain_at .later [] _ _ _ _ over (fun _ h => by cases h) (by kernel_rfl) (fun _ h => by cases h) fnExactCentsOf_row_tie rfl ⟨rfl, rfl⟩ (by kernel_rfl) rfl plain (by kernel_rfl)
theorem proved : Rows.FnExactCentsOfCardSaid := card
#print axioms proved
end Go.Proofs.YtojmkelgbcnfmaaDoor.fnExactCentsOf
namespace Go.Proofs.YtojmkelgbcnfmaaDoor
/-- The row, under a short name, for the claim. -/
theorem fnExactCentsOf_holds : Rows.FnExactCentsOfCardSaid := fnExactCentsOf.proved
end Go.Proofs.YtojmkelgbcnfmaaDoor
