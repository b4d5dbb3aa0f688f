/-
  No cell of these rows narrows 'for every input' (looked for: loops, veiled, ifaces, maps, wideKeys, modest, calm, conditions, laid).
  DERIVED. THE GIVEN ROWS OF THIS SEAT. 12 by the template 'for every input the law returns true; each argument reads behind the call as it read before'; 0 by the template 'total and deterministic' (their statements: YtnmpkijibhidaaaTotals.lean).
  GIVEN WITH THE SEED: the statements are not yours to turn. If you find one false, say at which input.
  Laid BY PROGRAM, IN A SANDBOX (cutbox-rows.mjs): the forced cells as the released guide's own fill.sh prints them over the translation 364419eb1ac36a76… (all of the seat's roots in one cut). By AI agents, Wed Nov 11 2026. No macro, syntax, notation, axiom, sorry.
-/
import Derived.Test.YtnmpkijibhidaaaChecked
import GoSem.Claim
import GoSem.ClaimJoined
import GoSem.ClaimMapViews
import Derived.JoinedTies
import Derived.KernelRfl
namespace Go.Proofs.Ytnmpkijibhidaaa
/- THE CELL 'sum', in the pinned program and in every row, IS THE sha256 OF THE DUMP (.gsa) THAT YtnmpkijibhidaaaProg.lean LOADS. Nothing in Lean hashes anything: it is a label: what it is worth is what the hold of that sum in a sandbox is worth. -/
noncomputable def Try.pinned : Pinned := { name := "ytnmpkijibhidaaa", sum := "364419eb1ac36a76ffe0d9d7685bc4567da68f9b9b36b94100f1648e0c104272", checked := Try.checked }
namespace Rows
def none {H : Type} : Left H := { results := [], args := [] }

/-- 'laws.FnExactBlend': WHATEVER THE INPUT: true; the input reads as it did. -/
def fnExactBlendSpec : ChangeSpec := { name := "fnExactBlend", fn := fun _ => fun
  | [d1, d2, d3, d4, d5] => { results := [.lit (.bool true)], args := [d1, d2, d3, d4, d5] }
  | _ => none }
def fnExactBlendRow : OpenClaim := { program := "ytnmpkijibhidaaa", sum := "364419eb1ac36a76ffe0d9d7685bc4567da68f9b9b36b94100f1648e0c104272", func := "loop.example/g01033/laws.FnExactBlend", spec := "fnExactBlend", apart := false }
def FnExactBlendSaid : Prop := fnExactBlendRow.holds Try.pinned (OpenSpec.ofChange fnExactBlendSpec)

/-- ITS FALSE NEIGHBOUR: 'it returns false'. Refute it at one input. -/
def fnExactBlendWrong : ChangeSpec := { name := "fnExactBlend", fn := fun _ => fun
  | [d1, d2, d3, d4, d5] => { results := [.lit (.bool false)], args := [d1, d2, d3, d4, d5] }
  | _ => none }
def FnExactBlendWrongFalsely : Prop := fnExactBlendRow.holds Try.pinned (OpenSpec.ofChange fnExactBlendWrong)

/-- 'laws.FnExactToneAt': WHATEVER THE INPUT: true; the input reads as it did. -/
def fnExactToneAtSpec : ChangeSpec := { name := "fnExactToneAt", fn := fun _ => fun
  | [d1, d2] => { results := [.lit (.bool true)], args := [d1, d2] }
  | _ => none }
def fnExactToneAtRow : OpenClaim := { program := "ytnmpkijibhidaaa", sum := "364419eb1ac36a76ffe0d9d7685bc4567da68f9b9b36b94100f1648e0c104272", func := "loop.example/g01033/laws.FnExactToneAt", spec := "fnExactToneAt", apart := false }
def FnExactToneAtSaid : Prop := fnExactToneAtRow.holds Try.pinned (OpenSpec.ofChange fnExactToneAtSpec)

/-- ITS FALSE NEIGHBOUR: 'it returns false'. Refute it at one input. -/
def fnExactToneAtWrong : ChangeSpec := { name := "fnExactToneAt", fn := fun _ => fun
  | [d1, d2] => { results := [.lit (.bool false)], args := [d1, d2] }
  | _ => none }
def FnExactToneAtWrongFalsely : Prop := fnExactToneAtRow.holds Try.pinned (OpenSpec.ofChange fnExactToneAtWrong)

/-- 'laws.FnExactScaleText': WHATEVER THE INPUT: true; the input reads as it did. -/
def fnExactScaleTextSpec : ChangeSpec := { name := "fnExactScaleText", fn := fun _ => fun
  | [d] => { results := [.lit (.bool true)], args := [d] }
  | _ => none }
def fnExactScaleTextRow : OpenClaim := { program := "ytnmpkijibhidaaa", sum := "364419eb1ac36a76ffe0d9d7685bc4567da68f9b9b36b94100f1648e0c104272", func := "loop.example/g01033/laws.FnExactScaleText", spec := "fnExactScaleText", apart := false }
def FnExactScaleTextSaid : Prop := fnExactScaleTextRow.holds Try.pinned (OpenSpec.ofChange fnExactScaleTextSpec)

/-- ITS FALSE NEIGHBOUR: 'it returns false'. Refute it at one input. -/
def fnExactScaleTextWrong : ChangeSpec := { name := "fnExactScaleText", fn := fun _ => fun
  | [d] => { results := [.lit (.bool false)], args := [d] }
  | _ => none }
def FnExactScaleTextWrongFalsely : Prop := fnExactScaleTextRow.holds Try.pinned (OpenSpec.ofChange fnExactScaleTextWrong)

/-- 'laws.FnExactNumberedScale': WHATEVER THE INPUT: true; the input reads as it did. -/
def fnExactNumberedScaleSpec : ChangeSpec := { name := "fnExactNumberedScale", fn := fun _ => fun
  | [d1, d2] => { results := [.lit (.bool true)], args := [d1, d2] }
  | _ => none }
def fnExactNumberedScaleRow : OpenClaim := { program := "ytnmpkijibhidaaa", sum := "364419eb1ac36a76ffe0d9d7685bc4567da68f9b9b36b94100f1648e0c104272", func := "loop.example/g01033/laws.FnExactNumberedScale", spec := "fnExactNumberedScale", apart := false }
def FnExactNumberedScaleSaid : Prop := fnExactNumberedScaleRow.holds Try.pinned (OpenSpec.ofChange fnExactNumberedScaleSpec)

/-- ITS FALSE NEIGHBOUR: 'it returns false'. Refute it at one input. -/
def fnExactNumberedScaleWrong : ChangeSpec := { name := "fnExactNumberedScale", fn := fun _ => fun
  | [d1, d2] => { results := [.lit (.bool false)], args := [d1, d2] }
  | _ => none }
def FnExactNumberedScaleWrongFalsely : Prop := fnExactNumberedScaleRow.holds Try.pinned (OpenSpec.ofChange fnExactNumberedScaleWrong)

/-- 'laws.FnExactIntervalsOf': WHATEVER THE INPUT: true; the input reads as it did. -/
def fnExactIntervalsOfSpec : ChangeSpec := { name := "fnExactIntervalsOf", fn := fun _ => fun
  | [d] => { results := [.lit (.bool true)], args := [d] }
  | _ => none }
def fnExactIntervalsOfRow : OpenClaim := { program := "ytnmpkijibhidaaa", sum := "364419eb1ac36a76ffe0d9d7685bc4567da68f9b9b36b94100f1648e0c104272", func := "loop.example/g01033/laws.FnExactIntervalsOf", spec := "fnExactIntervalsOf", apart := false }
def FnExactIntervalsOfSaid : Prop := fnExactIntervalsOfRow.holds Try.pinned (OpenSpec.ofChange fnExactIntervalsOfSpec)

/-- ITS FALSE NEIGHBOUR: 'it returns false'. Refute it at one input. -/
def fnExactIntervalsOfWrong : ChangeSpec := { name := "fnExactIntervalsOf", fn := fun _ => fun
  | [d] => { results := [.lit (.bool false)], args := [d] }
  | _ => none }
def FnExactIntervalsOfWrongFalsely : Prop := fnExactIntervalsOfRow.holds Try.pinned (OpenSpec.ofChange fnExactIntervalsOfWrong)

/-- 'laws.FnExactScaleNumber': WHATEVER THE INPUT: true; the input reads as it did. -/
def fnExactScaleNumberSpec : ChangeSpec := { name := "fnExactScaleNumber", fn := fun _ => fun
  | [d] => { results := [.lit (.bool true)], args := [d] }
  | _ => none }
def fnExactScaleNumberRow : OpenClaim := { program := "ytnmpkijibhidaaa", sum := "364419eb1ac36a76ffe0d9d7685bc4567da68f9b9b36b94100f1648e0c104272", func := "loop.example/g01033/laws.FnExactScaleNumber", spec := "fnExactScaleNumber", apart := false }
def FnExactScaleNumberSaid : Prop := fnExactScaleNumberRow.holds Try.pinned (OpenSpec.ofChange fnExactScaleNumberSpec)

/-- ITS FALSE NEIGHBOUR: 'it returns false'. Refute it at one input. -/
def fnExactScaleNumberWrong : ChangeSpec := { name := "fnExactScaleNumber", fn := fun _ => fun
  | [d] => { results := [.lit (.bool false)], args := [d] }
  | _ => none }
def FnExactScaleNumberWrongFalsely : Prop := fnExactScaleNumberRow.holds Try.pinned (OpenSpec.ofChange fnExactScaleNumberWrong)

/-- 'laws.FnExactRotateScale': WHATEVER THE INPUT: true; the input reads as it did. -/
def fnExactRotateScaleSpec : ChangeSpec := { name := "fnExactRotateScale", fn := fun _ => fun
  | [d1, d2] => { results := [.lit (.bool true)], args := [d1, d2] }
  | _ => none }
def fnExactRotateScaleRow : OpenClaim := { program := "ytnmpkijibhidaaa", sum := "364419eb1ac36a76ffe0d9d7685bc4567da68f9b9b36b94100f1648e0c104272", func := "loop.example/g01033/laws.FnExactRotateScale", spec := "fnExactRotateScale", apart := false }
def FnExactRotateScaleSaid : Prop := fnExactRotateScaleRow.holds Try.pinned (OpenSpec.ofChange fnExactRotateScaleSpec)

/-- ITS FALSE NEIGHBOUR: 'it returns false'. Refute it at one input. -/
def fnExactRotateScaleWrong : ChangeSpec := { name := "fnExactRotateScale", fn := fun _ => fun
  | [d1, d2] => { results := [.lit (.bool false)], args := [d1, d2] }
  | _ => none }
def FnExactRotateScaleWrongFalsely : Prop := fnExactRotateScaleRow.holds Try.pinned (OpenSpec.ofChange fnExactRotateScaleWrong)

/-- 'laws.FnExactDegreeOf': WHATEVER THE INPUT: true; the input reads as it did. -/
def fnExactDegreeOfSpec : ChangeSpec := { name := "fnExactDegreeOf", fn := fun _ => fun
  | [d1, d2] => { results := [.lit (.bool true)], args := [d1, d2] }
  | _ => none }
def fnExactDegreeOfRow : OpenClaim := { program := "ytnmpkijibhidaaa", sum := "364419eb1ac36a76ffe0d9d7685bc4567da68f9b9b36b94100f1648e0c104272", func := "loop.example/g01033/laws.FnExactDegreeOf", spec := "fnExactDegreeOf", apart := false }
def FnExactDegreeOfSaid : Prop := fnExactDegreeOfRow.holds Try.pinned (OpenSpec.ofChange fnExactDegreeOfSpec)

/-- ITS FALSE NEIGHBOUR: 'it returns false'. Refute it at one input. -/
def fnExactDegreeOfWrong : ChangeSpec := { name := "fnExactDegreeOf", fn := fun _ => fun
  | [d1, d2] => { results := [.lit (.bool false)], args := [d1, d2] }
  | _ => none }
def FnExactDegreeOfWrongFalsely : Prop := fnExactDegreeOfRow.holds Try.pinned (OpenSpec.ofChange fnExactDegreeOfWrong)

/-- 'laws.FnExactRotationTo': WHATEVER THE INPUT: true; the input reads as it did. -/
def fnExactRotationToSpec : ChangeSpec := { name := "fnExactRotationTo", fn := fun _ => fun
  | [d1, d2] => { results := [.lit (.bool true)], args := [d1, d2] }
  | _ => none }
def fnExactRotationToRow : OpenClaim := { program := "ytnmpkijibhidaaa", sum := "364419eb1ac36a76ffe0d9d7685bc4567da68f9b9b36b94100f1648e0c104272", func := "loop.example/g01033/laws.FnExactRotationTo", spec := "fnExactRotationTo", unfollowed := true, recurses := true, apart := false }
def FnExactRotationToSaid : Prop := fnExactRotationToRow.holds Try.pinned (OpenSpec.ofChange fnExactRotationToSpec)

/-- ITS FALSE NEIGHBOUR: 'it returns false'. Refute it at one input. -/
def fnExactRotationToWrong : ChangeSpec := { name := "fnExactRotationTo", fn := fun _ => fun
  | [d1, d2] => { results := [.lit (.bool false)], args := [d1, d2] }
  | _ => none }
def FnExactRotationToWrongFalsely : Prop := fnExactRotationToRow.holds Try.pinned (OpenSpec.ofChange fnExactRotationToWrong)

/-- 'laws.FnExactToneNamed': WHATEVER THE INPUT: true; the input reads as it did. -/
def fnExactToneNamedSpec : ChangeSpec := { name := "fnExactToneNamed", fn := fun _ => fun
  | [d] => { results := [.lit (.bool true)], args := [d] }
  | _ => none }
def fnExactToneNamedRow : OpenClaim := { program := "ytnmpkijibhidaaa", sum := "364419eb1ac36a76ffe0d9d7685bc4567da68f9b9b36b94100f1648e0c104272", func := "loop.example/g01033/laws.FnExactToneNamed", spec := "fnExactToneNamed", inPlace := ["internal/bytealg.IndexByteString", "internal/bytealg.IndexString"], named := ["internal/bytealg.MaxLen"], apart := false }
def FnExactToneNamedSaid : Prop := fnExactToneNamedRow.holds Try.pinned (OpenSpec.ofChange fnExactToneNamedSpec)

/-- ITS FALSE NEIGHBOUR: 'it returns false'. Refute it at one input. -/
def fnExactToneNamedWrong : ChangeSpec := { name := "fnExactToneNamed", fn := fun _ => fun
  | [d] => { results := [.lit (.bool false)], args := [d] }
  | _ => none }
def FnExactToneNamedWrongFalsely : Prop := fnExactToneNamedRow.holds Try.pinned (OpenSpec.ofChange fnExactToneNamedWrong)

/-- 'laws.FnExactCommonTones': WHATEVER THE INPUT: true; the input reads as it did. -/
def fnExactCommonTonesSpec : ChangeSpec := { name := "fnExactCommonTones", fn := fun _ => fun
  | [d1, d2] => { results := [.lit (.bool true)], args := [d1, d2] }
  | _ => none }
def fnExactCommonTonesRow : OpenClaim := { program := "ytnmpkijibhidaaa", sum := "364419eb1ac36a76ffe0d9d7685bc4567da68f9b9b36b94100f1648e0c104272", func := "loop.example/g01033/laws.FnExactCommonTones", spec := "fnExactCommonTones", unfollowed := true, recurses := true, apart := false }
def FnExactCommonTonesSaid : Prop := fnExactCommonTonesRow.holds Try.pinned (OpenSpec.ofChange fnExactCommonTonesSpec)

/-- ITS FALSE NEIGHBOUR: 'it returns false'. Refute it at one input. -/
def fnExactCommonTonesWrong : ChangeSpec := { name := "fnExactCommonTones", fn := fun _ => fun
  | [d1, d2] => { results := [.lit (.bool false)], args := [d1, d2] }
  | _ => none }
def FnExactCommonTonesWrongFalsely : Prop := fnExactCommonTonesRow.holds Try.pinned (OpenSpec.ofChange fnExactCommonTonesWrong)

/-- 'laws.FnExactReadScale': WHATEVER THE INPUT: true; the input reads as it did. -/
def fnExactReadScaleSpec : ChangeSpec := { name := "fnExactReadScale", fn := fun _ => fun
  | [d] => { results := [.lit (.bool true)], args := [d] }
  | _ => none }
def fnExactReadScaleRow : OpenClaim := { program := "ytnmpkijibhidaaa", sum := "364419eb1ac36a76ffe0d9d7685bc4567da68f9b9b36b94100f1648e0c104272", func := "loop.example/g01033/laws.FnExactReadScale", spec := "fnExactReadScale", inPlace := ["internal/bytealg.IndexByteString", "internal/bytealg.IndexString"], named := ["internal/bytealg.MaxLen"], apart := false }
def FnExactReadScaleSaid : Prop := fnExactReadScaleRow.holds Try.pinned (OpenSpec.ofChange fnExactReadScaleSpec)

/-- ITS FALSE NEIGHBOUR: 'it returns false'. Refute it at one input. -/
def fnExactReadScaleWrong : ChangeSpec := { name := "fnExactReadScale", fn := fun _ => fun
  | [d] => { results := [.lit (.bool false)], args := [d] }
  | _ => none }
def FnExactReadScaleWrongFalsely : Prop := fnExactReadScaleRow.holds Try.pinned (OpenSpec.ofChange fnExactReadScaleWrong)

/- THE SECOND FORM. 'bulk': how many values and letters a reading holds, each counted each time it is reached (what is shared counts as often as it is met; a slice's spare places count too). A statement '..UptoSaid' is the law's where the arguments, and the package variables that the reading takes, are together of bulk at most 1048576: NARROWER than '..Said'. Prove '..Said' where nothing that the law and all that it calls make is longer than what came in: it says more and counts as full. Else prove '..UptoSaid'. A law counts once. -/
mutual
def uptoBulk {H : Type} : DataW H → Nat
  | .lit (.string bytes) => bytes.length + 1
  | .lit _ => 1
  | .nil => 1
  | .ptr d => uptoBulk d + 1
  | .slice elems spare => uptoBulkAll elems + uptoBulkAll spare + 1
  | .agg parts => uptoBulkAll parts + 1
  | .iface _ d => uptoBulk d + 1
  | .map entries => uptoBulkEntries entries + 1
  | .held _ => 1
def uptoBulkAll {H : Type} : List (DataW H) → Nat
  | [] => 0
  | d :: r => uptoBulk d + uptoBulkAll r
def uptoBulkEntries {H : Type} : List (Lit × DataW H) → Nat
  | [] => 0
  | x :: r => uptoBulkEntry x + uptoBulkEntries r
def uptoBulkEntry {H : Type} : Lit × DataW H → Nat
  | (.string bytes, d) => bytes.length + uptoBulk d + 1
  | (_, d) => uptoBulk d + 1
 end
def uptoSmall : (H : Type) → List (DataW H) → Bool := fun _ ds => decide (uptoBulkAll ds ≤ 1048576)
def OpenSpec.upto (s : _root_.Go.ChangeSpec) : _root_.Go.OpenSpec := { _root_.Go.OpenSpec.ofChange s with cond := some uptoSmall }

/-- 'laws.FnExactBlend', WHERE WHAT IT READS IS OF BULK AT MOST 1048576: true; the input reads as it did. -/
def fnExactBlendUptoRow : OpenClaim := { program := "ytnmpkijibhidaaa", sum := "364419eb1ac36a76ffe0d9d7685bc4567da68f9b9b36b94100f1648e0c104272", func := "loop.example/g01033/laws.FnExactBlend", spec := "fnExactBlend", apart := false, narrowed := true }
def FnExactBlendUptoSaid : Prop := fnExactBlendUptoRow.holds Try.pinned (OpenSpec.upto fnExactBlendSpec)

/-- 'laws.FnExactToneAt', WHERE WHAT IT READS IS OF BULK AT MOST 1048576: true; the input reads as it did. -/
def fnExactToneAtUptoRow : OpenClaim := { program := "ytnmpkijibhidaaa", sum := "364419eb1ac36a76ffe0d9d7685bc4567da68f9b9b36b94100f1648e0c104272", func := "loop.example/g01033/laws.FnExactToneAt", spec := "fnExactToneAt", apart := false, narrowed := true }
def FnExactToneAtUptoSaid : Prop := fnExactToneAtUptoRow.holds Try.pinned (OpenSpec.upto fnExactToneAtSpec)

/-- 'laws.FnExactScaleText', WHERE WHAT IT READS IS OF BULK AT MOST 1048576: true; the input reads as it did. -/
def fnExactScaleTextUptoRow : OpenClaim := { program := "ytnmpkijibhidaaa", sum := "364419eb1ac36a76ffe0d9d7685bc4567da68f9b9b36b94100f1648e0c104272", func := "loop.example/g01033/laws.FnExactScaleText", spec := "fnExactScaleText", apart := false, narrowed := true }
def FnExactScaleTextUptoSaid : Prop := fnExactScaleTextUptoRow.holds Try.pinned (OpenSpec.upto fnExactScaleTextSpec)

/-- 'laws.FnExactNumberedScale', WHERE WHAT IT READS IS OF BULK AT MOST 1048576: true; the input reads as it did. -/
def fnExactNumberedScaleUptoRow : OpenClaim := { program := "ytnmpkijibhidaaa", sum := "364419eb1ac36a76ffe0d9d7685bc4567da68f9b9b36b94100f1648e0c104272", func := "loop.example/g01033/laws.FnExactNumberedScale", spec := "fnExactNumberedScale", apart := false, narrowed := true }
def FnExactNumberedScaleUptoSaid : Prop := fnExactNumberedScaleUptoRow.holds Try.pinned (OpenSpec.upto fnExactNumberedScaleSpec)

/-- 'laws.FnExactIntervalsOf', WHERE WHAT IT READS IS OF BULK AT MOST 1048576: true; the input reads as it did. -/
def fnExactIntervalsOfUptoRow : OpenClaim := { program := "ytnmpkijibhidaaa", sum := "364419eb1ac36a76ffe0d9d7685bc4567da68f9b9b36b94100f1648e0c104272", func := "loop.example/g01033/laws.FnExactIntervalsOf", spec := "fnExactIntervalsOf", apart := false, narrowed := true }
def FnExactIntervalsOfUptoSaid : Prop := fnExactIntervalsOfUptoRow.holds Try.pinned (OpenSpec.upto fnExactIntervalsOfSpec)

/-- 'laws.FnExactScaleNumber', WHERE WHAT IT READS IS OF BULK AT MOST 1048576: true; the input reads as it did. -/
def fnExactScaleNumberUptoRow : OpenClaim := { program := "ytnmpkijibhidaaa", sum := "364419eb1ac36a76ffe0d9d7685bc4567da68f9b9b36b94100f1648e0c104272", func := "loop.example/g01033/laws.FnExactScaleNumber", spec := "fnExactScaleNumber", apart := false, narrowed := true }
def FnExactScaleNumberUptoSaid : Prop := fnExactScaleNumberUptoRow.holds Try.pinned (OpenSpec.upto fnExactScaleNumberSpec)

/-- 'laws.FnExactRotateScale', WHERE WHAT IT READS IS OF BULK AT MOST 1048576: true; the input reads as it did. -/
def fnExactRotateScaleUptoRow : OpenClaim := { program := "ytnmpkijibhidaaa", sum := "364419eb1ac36a76ffe0d9d7685bc4567da68f9b9b36b94100f1648e0c104272", func := "loop.example/g01033/laws.FnExactRotateScale", spec := "fnExactRotateScale", apart := false, narrowed := true }
def FnExactRotateScaleUptoSaid : Prop := fnExactRotateScaleUptoRow.holds Try.pinned (OpenSpec.upto fnExactRotateScaleSpec)

/-- 'laws.FnExactDegreeOf', WHERE WHAT IT READS IS OF BULK AT MOST 1048576: true; the input reads as it did. -/
def fnExactDegreeOfUptoRow : OpenClaim := { program := "ytnmpkijibhidaaa", sum := "364419eb1ac36a76ffe0d9d7685bc4567da68f9b9b36b94100f1648e0c104272", func := "loop.example/g01033/laws.FnExactDegreeOf", spec := "fnExactDegreeOf", apart := false, narrowed := true }
def FnExactDegreeOfUptoSaid : Prop := fnExactDegreeOfUptoRow.holds Try.pinned (OpenSpec.upto fnExactDegreeOfSpec)

/-- 'laws.FnExactRotationTo', WHERE WHAT IT READS IS OF BULK AT MOST 1048576: true; the input reads as it did. -/
def fnExactRotationToUptoRow : OpenClaim := { program := "ytnmpkijibhidaaa", sum := "364419eb1ac36a76ffe0d9d7685bc4567da68f9b9b36b94100f1648e0c104272", func := "loop.example/g01033/laws.FnExactRotationTo", spec := "fnExactRotationTo", unfollowed := true, recurses := true, apart := false, narrowed := true }
def FnExactRotationToUptoSaid : Prop := fnExactRotationToUptoRow.holds Try.pinned (OpenSpec.upto fnExactRotationToSpec)

/-- 'laws.FnExactToneNamed', WHERE WHAT IT READS IS OF BULK AT MOST 1048576: true; the input reads as it did. -/
def fnExactToneNamedUptoRow : OpenClaim := { program := "ytnmpkijibhidaaa", sum := "364419eb1ac36a76ffe0d9d7685bc4567da68f9b9b36b94100f1648e0c104272", func := "loop.example/g01033/laws.FnExactToneNamed", spec := "fnExactToneNamed", inPlace := ["internal/bytealg.IndexByteString", "internal/bytealg.IndexString"], named := ["internal/bytealg.MaxLen"], apart := false, narrowed := true }
def FnExactToneNamedUptoSaid : Prop := fnExactToneNamedUptoRow.holds Try.pinned (OpenSpec.upto fnExactToneNamedSpec)

/-- 'laws.FnExactCommonTones', WHERE WHAT IT READS IS OF BULK AT MOST 1048576: true; the input reads as it did. -/
def fnExactCommonTonesUptoRow : OpenClaim := { program := "ytnmpkijibhidaaa", sum := "364419eb1ac36a76ffe0d9d7685bc4567da68f9b9b36b94100f1648e0c104272", func := "loop.example/g01033/laws.FnExactCommonTones", spec := "fnExactCommonTones", unfollowed := true, recurses := true, apart := false, narrowed := true }
def FnExactCommonTonesUptoSaid : Prop := fnExactCommonTonesUptoRow.holds Try.pinned (OpenSpec.upto fnExactCommonTonesSpec)

/-- 'laws.FnExactReadScale', WHERE WHAT IT READS IS OF BULK AT MOST 1048576: true; the input reads as it did. -/
def fnExactReadScaleUptoRow : OpenClaim := { program := "ytnmpkijibhidaaa", sum := "364419eb1ac36a76ffe0d9d7685bc4567da68f9b9b36b94100f1648e0c104272", func := "loop.example/g01033/laws.FnExactReadScale", spec := "fnExactReadScale", inPlace := ["internal/bytealg.IndexByteString", "internal/bytealg.IndexString"], named := ["internal/bytealg.MaxLen"], apart := false, narrowed := true }
def FnExactReadScaleUptoSaid : Prop := fnExactReadScaleUptoRow.holds Try.pinned (OpenSpec.upto fnExactReadScaleSpec)

end Rows
end Go.Proofs.Ytnmpkijibhidaaa
