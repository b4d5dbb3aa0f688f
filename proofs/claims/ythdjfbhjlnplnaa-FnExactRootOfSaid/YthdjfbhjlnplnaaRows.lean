/-
  No cell of these rows narrows 'for every input' (looked for: loops, veiled, ifaces, maps, wideKeys, modest, calm, conditions, laid).
  DERIVED. THE GIVEN ROWS OF THIS SEAT. 12 by the template 'for every input the law returns true; each argument reads behind the call as it read before'; 0 by the template 'total and deterministic' (their statements: YthdjfbhjlnplnaaTotals.lean).
  GIVEN WITH THE SEED: the statements are not yours to turn. If you find one false, say at which input.
  Laid BY PROGRAM, IN A SANDBOX (cutbox-rows.mjs): the forced cells as the released guide's own fill.sh prints them over the translation 75a31f86803d4166… (all of the seat's roots in one cut). By AI agents, Wed Nov 11 2026. No macro, syntax, notation, axiom, sorry.
-/
import Derived.Test.YthdjfbhjlnplnaaChecked
import GoSem.Claim
import GoSem.ClaimJoined
import GoSem.ClaimMapViews
import Derived.JoinedTies
import Derived.KernelRfl
namespace Go.Proofs.Ythdjfbhjlnplnaa
/- THE CELL 'sum', in the pinned program and in every row, IS THE sha256 OF THE DUMP (.gsa) THAT YthdjfbhjlnplnaaProg.lean LOADS. Nothing in Lean hashes anything: it is a label: what it is worth is what the hold of that sum in a sandbox is worth. -/
noncomputable def Try.pinned : Pinned := { name := "ythdjfbhjlnplnaa", sum := "75a31f86803d416601fd6985bab8d16a7efbfc7ccd668e51553e19af2ea7b00d", checked := Try.checked }
namespace Rows
def none {H : Type} : Left H := { results := [], args := [] }

/-- 'laws.FnExactConstants': WHATEVER THE INPUT: true; the input reads as it did. -/
def fnExactConstantsSpec : ChangeSpec := { name := "fnExactConstants", fn := fun _ => fun
  | [] => { results := [.lit (.bool true)], args := [] }
  | _ => none }
def fnExactConstantsRow : OpenClaim := { program := "ythdjfbhjlnplnaa", sum := "75a31f86803d416601fd6985bab8d16a7efbfc7ccd668e51553e19af2ea7b00d", func := "loop.example/g01033/laws.FnExactConstants", spec := "fnExactConstants", apart := false }
def FnExactConstantsSaid : Prop := fnExactConstantsRow.holds Try.pinned (OpenSpec.ofChange fnExactConstantsSpec)

/-- ITS FALSE NEIGHBOUR: 'it returns false'. Refute it at one input. -/
def fnExactConstantsWrong : ChangeSpec := { name := "fnExactConstants", fn := fun _ => fun
  | [] => { results := [.lit (.bool false)], args := [] }
  | _ => none }
def FnExactConstantsWrongFalsely : Prop := fnExactConstantsRow.holds Try.pinned (OpenSpec.ofChange fnExactConstantsWrong)

/-- 'laws.FnExactToneOf': WHATEVER THE INPUT: true; the input reads as it did. -/
def fnExactToneOfSpec : ChangeSpec := { name := "fnExactToneOf", fn := fun _ => fun
  | [d] => { results := [.lit (.bool true)], args := [d] }
  | _ => none }
def fnExactToneOfRow : OpenClaim := { program := "ythdjfbhjlnplnaa", sum := "75a31f86803d416601fd6985bab8d16a7efbfc7ccd668e51553e19af2ea7b00d", func := "loop.example/g01033/laws.FnExactToneOf", spec := "fnExactToneOf", apart := false }
def FnExactToneOfSaid : Prop := fnExactToneOfRow.holds Try.pinned (OpenSpec.ofChange fnExactToneOfSpec)

/-- ITS FALSE NEIGHBOUR: 'it returns false'. Refute it at one input. -/
def fnExactToneOfWrong : ChangeSpec := { name := "fnExactToneOf", fn := fun _ => fun
  | [d] => { results := [.lit (.bool false)], args := [d] }
  | _ => none }
def FnExactToneOfWrongFalsely : Prop := fnExactToneOfRow.holds Try.pinned (OpenSpec.ofChange fnExactToneOfWrong)

/-- 'laws.FnExactCodeName': WHATEVER THE INPUT: true; the input reads as it did. -/
def fnExactCodeNameSpec : ChangeSpec := { name := "fnExactCodeName", fn := fun _ => fun
  | [d] => { results := [.lit (.bool true)], args := [d] }
  | _ => none }
def fnExactCodeNameRow : OpenClaim := { program := "ythdjfbhjlnplnaa", sum := "75a31f86803d416601fd6985bab8d16a7efbfc7ccd668e51553e19af2ea7b00d", func := "loop.example/g01033/laws.FnExactCodeName", spec := "fnExactCodeName", apart := false }
def FnExactCodeNameSaid : Prop := fnExactCodeNameRow.holds Try.pinned (OpenSpec.ofChange fnExactCodeNameSpec)

/-- ITS FALSE NEIGHBOUR: 'it returns false'. Refute it at one input. -/
def fnExactCodeNameWrong : ChangeSpec := { name := "fnExactCodeName", fn := fun _ => fun
  | [d] => { results := [.lit (.bool false)], args := [d] }
  | _ => none }
def FnExactCodeNameWrongFalsely : Prop := fnExactCodeNameRow.holds Try.pinned (OpenSpec.ofChange fnExactCodeNameWrong)

/-- 'laws.FnExactToneName': WHATEVER THE INPUT: true; the input reads as it did. -/
def fnExactToneNameSpec : ChangeSpec := { name := "fnExactToneName", fn := fun _ => fun
  | [d] => { results := [.lit (.bool true)], args := [d] }
  | _ => none }
def fnExactToneNameRow : OpenClaim := { program := "ythdjfbhjlnplnaa", sum := "75a31f86803d416601fd6985bab8d16a7efbfc7ccd668e51553e19af2ea7b00d", func := "loop.example/g01033/laws.FnExactToneName", spec := "fnExactToneName", apart := false }
def FnExactToneNameSaid : Prop := fnExactToneNameRow.holds Try.pinned (OpenSpec.ofChange fnExactToneNameSpec)

/-- ITS FALSE NEIGHBOUR: 'it returns false'. Refute it at one input. -/
def fnExactToneNameWrong : ChangeSpec := { name := "fnExactToneName", fn := fun _ => fun
  | [d] => { results := [.lit (.bool false)], args := [d] }
  | _ => none }
def FnExactToneNameWrongFalsely : Prop := fnExactToneNameRow.holds Try.pinned (OpenSpec.ofChange fnExactToneNameWrong)

/-- 'laws.FnExactIsName': WHATEVER THE INPUT: true; the input reads as it did. -/
def fnExactIsNameSpec : ChangeSpec := { name := "fnExactIsName", fn := fun _ => fun
  | [d] => { results := [.lit (.bool true)], args := [d] }
  | _ => none }
def fnExactIsNameRow : OpenClaim := { program := "ythdjfbhjlnplnaa", sum := "75a31f86803d416601fd6985bab8d16a7efbfc7ccd668e51553e19af2ea7b00d", func := "loop.example/g01033/laws.FnExactIsName", spec := "fnExactIsName", apart := false }
def FnExactIsNameSaid : Prop := fnExactIsNameRow.holds Try.pinned (OpenSpec.ofChange fnExactIsNameSpec)

/-- ITS FALSE NEIGHBOUR: 'it returns false'. Refute it at one input. -/
def fnExactIsNameWrong : ChangeSpec := { name := "fnExactIsName", fn := fun _ => fun
  | [d] => { results := [.lit (.bool false)], args := [d] }
  | _ => none }
def FnExactIsNameWrongFalsely : Prop := fnExactIsNameRow.holds Try.pinned (OpenSpec.ofChange fnExactIsNameWrong)

/-- 'laws.FnExactValidRatio': WHATEVER THE INPUT: true; the input reads as it did. -/
def fnExactValidRatioSpec : ChangeSpec := { name := "fnExactValidRatio", fn := fun _ => fun
  | [d] => { results := [.lit (.bool true)], args := [d] }
  | _ => none }
def fnExactValidRatioRow : OpenClaim := { program := "ythdjfbhjlnplnaa", sum := "75a31f86803d416601fd6985bab8d16a7efbfc7ccd668e51553e19af2ea7b00d", func := "loop.example/g01033/laws.FnExactValidRatio", spec := "fnExactValidRatio", apart := false }
def FnExactValidRatioSaid : Prop := fnExactValidRatioRow.holds Try.pinned (OpenSpec.ofChange fnExactValidRatioSpec)

/-- ITS FALSE NEIGHBOUR: 'it returns false'. Refute it at one input. -/
def fnExactValidRatioWrong : ChangeSpec := { name := "fnExactValidRatio", fn := fun _ => fun
  | [d] => { results := [.lit (.bool false)], args := [d] }
  | _ => none }
def FnExactValidRatioWrongFalsely : Prop := fnExactValidRatioRow.holds Try.pinned (OpenSpec.ofChange fnExactValidRatioWrong)

/-- 'laws.FnExactCrc16': WHATEVER THE INPUT: true; the input reads as it did. -/
def fnExactCrc16Spec : ChangeSpec := { name := "fnExactCrc16", fn := fun _ => fun
  | [d1, d2] => { results := [.lit (.bool true)], args := [d1, d2] }
  | _ => none }
def fnExactCrc16Row : OpenClaim := { program := "ythdjfbhjlnplnaa", sum := "75a31f86803d416601fd6985bab8d16a7efbfc7ccd668e51553e19af2ea7b00d", func := "loop.example/g01033/laws.FnExactCrc16", spec := "fnExactCrc16", apart := false }
def FnExactCrc16Said : Prop := fnExactCrc16Row.holds Try.pinned (OpenSpec.ofChange fnExactCrc16Spec)

/-- ITS FALSE NEIGHBOUR: 'it returns false'. Refute it at one input. -/
def fnExactCrc16Wrong : ChangeSpec := { name := "fnExactCrc16", fn := fun _ => fun
  | [d1, d2] => { results := [.lit (.bool false)], args := [d1, d2] }
  | _ => none }
def FnExactCrc16WrongFalsely : Prop := fnExactCrc16Row.holds Try.pinned (OpenSpec.ofChange fnExactCrc16Wrong)

/-- 'laws.FnExactCountScales': WHATEVER THE INPUT: true; the input reads as it did. -/
def fnExactCountScalesSpec : ChangeSpec := { name := "fnExactCountScales", fn := fun _ => fun
  | [d] => { results := [.lit (.bool true)], args := [d] }
  | _ => none }
def fnExactCountScalesRow : OpenClaim := { program := "ythdjfbhjlnplnaa", sum := "75a31f86803d416601fd6985bab8d16a7efbfc7ccd668e51553e19af2ea7b00d", func := "loop.example/g01033/laws.FnExactCountScales", spec := "fnExactCountScales", apart := false }
def FnExactCountScalesSaid : Prop := fnExactCountScalesRow.holds Try.pinned (OpenSpec.ofChange fnExactCountScalesSpec)

/-- ITS FALSE NEIGHBOUR: 'it returns false'. Refute it at one input. -/
def fnExactCountScalesWrong : ChangeSpec := { name := "fnExactCountScales", fn := fun _ => fun
  | [d] => { results := [.lit (.bool false)], args := [d] }
  | _ => none }
def FnExactCountScalesWrongFalsely : Prop := fnExactCountScalesRow.holds Try.pinned (OpenSpec.ofChange fnExactCountScalesWrong)

/-- 'laws.FnExactRootOf': WHATEVER THE INPUT: true; the input reads as it did. -/
def fnExactRootOfSpec : ChangeSpec := { name := "fnExactRootOf", fn := fun _ => fun
  | [d] => { results := [.lit (.bool true)], args := [d] }
  | _ => none }
def fnExactRootOfRow : OpenClaim := { program := "ythdjfbhjlnplnaa", sum := "75a31f86803d416601fd6985bab8d16a7efbfc7ccd668e51553e19af2ea7b00d", func := "loop.example/g01033/laws.FnExactRootOf", spec := "fnExactRootOf", unfollowed := true, recurses := true, apart := false }
def FnExactRootOfSaid : Prop := fnExactRootOfRow.holds Try.pinned (OpenSpec.ofChange fnExactRootOfSpec)

/-- ITS FALSE NEIGHBOUR: 'it returns false'. Refute it at one input. -/
def fnExactRootOfWrong : ChangeSpec := { name := "fnExactRootOf", fn := fun _ => fun
  | [d] => { results := [.lit (.bool false)], args := [d] }
  | _ => none }
def FnExactRootOfWrongFalsely : Prop := fnExactRootOfRow.holds Try.pinned (OpenSpec.ofChange fnExactRootOfWrong)

/-- 'laws.FnExactDivRound': WHATEVER THE INPUT: true; the input reads as it did. -/
def fnExactDivRoundSpec : ChangeSpec := { name := "fnExactDivRound", fn := fun _ => fun
  | [d1, d2] => { results := [.lit (.bool true)], args := [d1, d2] }
  | _ => none }
def fnExactDivRoundRow : OpenClaim := { program := "ythdjfbhjlnplnaa", sum := "75a31f86803d416601fd6985bab8d16a7efbfc7ccd668e51553e19af2ea7b00d", func := "loop.example/g01033/laws.FnExactDivRound", spec := "fnExactDivRound", apart := false }
def FnExactDivRoundSaid : Prop := fnExactDivRoundRow.holds Try.pinned (OpenSpec.ofChange fnExactDivRoundSpec)

/-- ITS FALSE NEIGHBOUR: 'it returns false'. Refute it at one input. -/
def fnExactDivRoundWrong : ChangeSpec := { name := "fnExactDivRound", fn := fun _ => fun
  | [d1, d2] => { results := [.lit (.bool false)], args := [d1, d2] }
  | _ => none }
def FnExactDivRoundWrongFalsely : Prop := fnExactDivRoundRow.holds Try.pinned (OpenSpec.ofChange fnExactDivRoundWrong)

/-- 'laws.FnExactValidScale': WHATEVER THE INPUT: true; the input reads as it did. -/
def fnExactValidScaleSpec : ChangeSpec := { name := "fnExactValidScale", fn := fun _ => fun
  | [d] => { results := [.lit (.bool true)], args := [d] }
  | _ => none }
def fnExactValidScaleRow : OpenClaim := { program := "ythdjfbhjlnplnaa", sum := "75a31f86803d416601fd6985bab8d16a7efbfc7ccd668e51553e19af2ea7b00d", func := "loop.example/g01033/laws.FnExactValidScale", spec := "fnExactValidScale", apart := false }
def FnExactValidScaleSaid : Prop := fnExactValidScaleRow.holds Try.pinned (OpenSpec.ofChange fnExactValidScaleSpec)

/-- ITS FALSE NEIGHBOUR: 'it returns false'. Refute it at one input. -/
def fnExactValidScaleWrong : ChangeSpec := { name := "fnExactValidScale", fn := fun _ => fun
  | [d] => { results := [.lit (.bool false)], args := [d] }
  | _ => none }
def FnExactValidScaleWrongFalsely : Prop := fnExactValidScaleRow.holds Try.pinned (OpenSpec.ofChange fnExactValidScaleWrong)

/-- 'laws.FnExactReduceRatio': WHATEVER THE INPUT: true; the input reads as it did. -/
def fnExactReduceRatioSpec : ChangeSpec := { name := "fnExactReduceRatio", fn := fun _ => fun
  | [d1, d2] => { results := [.lit (.bool true)], args := [d1, d2] }
  | _ => none }
def fnExactReduceRatioRow : OpenClaim := { program := "ythdjfbhjlnplnaa", sum := "75a31f86803d416601fd6985bab8d16a7efbfc7ccd668e51553e19af2ea7b00d", func := "loop.example/g01033/laws.FnExactReduceRatio", spec := "fnExactReduceRatio", apart := false }
def FnExactReduceRatioSaid : Prop := fnExactReduceRatioRow.holds Try.pinned (OpenSpec.ofChange fnExactReduceRatioSpec)

/-- ITS FALSE NEIGHBOUR: 'it returns false'. Refute it at one input. -/
def fnExactReduceRatioWrong : ChangeSpec := { name := "fnExactReduceRatio", fn := fun _ => fun
  | [d1, d2] => { results := [.lit (.bool false)], args := [d1, d2] }
  | _ => none }
def FnExactReduceRatioWrongFalsely : Prop := fnExactReduceRatioRow.holds Try.pinned (OpenSpec.ofChange fnExactReduceRatioWrong)

/- THE SECOND FORM. 'bulk': how many values and letters a reading holds, each counted each time it is reached (what is shared counts as often as it is met; a slice's spare places count too). A statement '..UptoSaid' is the law's where the arguments, and the package variables that the reading takes, are together of bulk at most 1048576: NARROWER than '..Said'. Prove '..Said' where nothing that the law and all that it calls make is longer than what came in: it says more and counts as full. Else prove '..UptoSaid'. A law counts once. -/
mutual
def uptoBulk {H : Type} : DataW H → Nat
  | .lit (.string bytes) => bytes.length + 1
  | .lit _ => 1
  | .nil => 1
  | .ptr d => uptoBulk d + 1
  | .slice elems spare => uptoBulkAll elems + uptoBulkAll spare + 1
  | .agg parts => uptoBulkAll parts + 1
  | .iface _ d => uptoBulk d + 1
  | .map entries => uptoBulkEntries entries + 1
  | .held _ => 1
def uptoBulkAll {H : Type} : List (DataW H) → Nat
  | [] => 0
  | d :: r => uptoBulk d + uptoBulkAll r
def uptoBulkEntries {H : Type} : List (Lit × DataW H) → Nat
  | [] => 0
  | x :: r => uptoBulkEntry x + uptoBulkEntries r
def uptoBulkEntry {H : Type} : Lit × DataW H → Nat
  | (.string bytes, d) => bytes.length + uptoBulk d + 1
  | (_, d) => uptoBulk d + 1
 end
def uptoSmall : (H : Type) → List (DataW H) → Bool := fun _ ds => decide (uptoBulkAll ds ≤ 1048576)
def OpenSpec.upto (s : _root_.Go.ChangeSpec) : _root_.Go.OpenSpec := { _root_.Go.OpenSpec.ofChange s with cond := some uptoSmall }

/-- 'laws.FnExactConstants', WHERE WHAT IT READS IS OF BULK AT MOST 1048576: true; the input reads as it did. -/
def fnExactConstantsUptoRow : OpenClaim := { program := "ythdjfbhjlnplnaa", sum := "75a31f86803d416601fd6985bab8d16a7efbfc7ccd668e51553e19af2ea7b00d", func := "loop.example/g01033/laws.FnExactConstants", spec := "fnExactConstants", apart := false, narrowed := true }
def FnExactConstantsUptoSaid : Prop := fnExactConstantsUptoRow.holds Try.pinned (OpenSpec.upto fnExactConstantsSpec)

/-- 'laws.FnExactToneOf', WHERE WHAT IT READS IS OF BULK AT MOST 1048576: true; the input reads as it did. -/
def fnExactToneOfUptoRow : OpenClaim := { program := "ythdjfbhjlnplnaa", sum := "75a31f86803d416601fd6985bab8d16a7efbfc7ccd668e51553e19af2ea7b00d", func := "loop.example/g01033/laws.FnExactToneOf", spec := "fnExactToneOf", apart := false, narrowed := true }
def FnExactToneOfUptoSaid : Prop := fnExactToneOfUptoRow.holds Try.pinned (OpenSpec.upto fnExactToneOfSpec)

/-- 'laws.FnExactCodeName', WHERE WHAT IT READS IS OF BULK AT MOST 1048576: true; the input reads as it did. -/
def fnExactCodeNameUptoRow : OpenClaim := { program := "ythdjfbhjlnplnaa", sum := "75a31f86803d416601fd6985bab8d16a7efbfc7ccd668e51553e19af2ea7b00d", func := "loop.example/g01033/laws.FnExactCodeName", spec := "fnExactCodeName", apart := false, narrowed := true }
def FnExactCodeNameUptoSaid : Prop := fnExactCodeNameUptoRow.holds Try.pinned (OpenSpec.upto fnExactCodeNameSpec)

/-- 'laws.FnExactToneName', WHERE WHAT IT READS IS OF BULK AT MOST 1048576: true; the input reads as it did. -/
def fnExactToneNameUptoRow : OpenClaim := { program := "ythdjfbhjlnplnaa", sum := "75a31f86803d416601fd6985bab8d16a7efbfc7ccd668e51553e19af2ea7b00d", func := "loop.example/g01033/laws.FnExactToneName", spec := "fnExactToneName", apart := false, narrowed := true }
def FnExactToneNameUptoSaid : Prop := fnExactToneNameUptoRow.holds Try.pinned (OpenSpec.upto fnExactToneNameSpec)

/-- 'laws.FnExactIsName', WHERE WHAT IT READS IS OF BULK AT MOST 1048576: true; the input reads as it did. -/
def fnExactIsNameUptoRow : OpenClaim := { program := "ythdjfbhjlnplnaa", sum := "75a31f86803d416601fd6985bab8d16a7efbfc7ccd668e51553e19af2ea7b00d", func := "loop.example/g01033/laws.FnExactIsName", spec := "fnExactIsName", apart := false, narrowed := true }
def FnExactIsNameUptoSaid : Prop := fnExactIsNameUptoRow.holds Try.pinned (OpenSpec.upto fnExactIsNameSpec)

/-- 'laws.FnExactValidRatio', WHERE WHAT IT READS IS OF BULK AT MOST 1048576: true; the input reads as it did. -/
def fnExactValidRatioUptoRow : OpenClaim := { program := "ythdjfbhjlnplnaa", sum := "75a31f86803d416601fd6985bab8d16a7efbfc7ccd668e51553e19af2ea7b00d", func := "loop.example/g01033/laws.FnExactValidRatio", spec := "fnExactValidRatio", apart := false, narrowed := true }
def FnExactValidRatioUptoSaid : Prop := fnExactValidRatioUptoRow.holds Try.pinned (OpenSpec.upto fnExactValidRatioSpec)

/-- 'laws.FnExactCrc16', WHERE WHAT IT READS IS OF BULK AT MOST 1048576: true; the input reads as it did. -/
def fnExactCrc16UptoRow : OpenClaim := { program := "ythdjfbhjlnplnaa", sum := "75a31f86803d416601fd6985bab8d16a7efbfc7ccd668e51553e19af2ea7b00d", func := "loop.example/g01033/laws.FnExactCrc16", spec := "fnExactCrc16", apart := false, narrowed := true }
def FnExactCrc16UptoSaid : Prop := fnExactCrc16UptoRow.holds Try.pinned (OpenSpec.upto fnExactCrc16Spec)

/-- 'laws.FnExactCountScales', WHERE WHAT IT READS IS OF BULK AT MOST 1048576: true; the input reads as it did. -/
def fnExactCountScalesUptoRow : OpenClaim := { program := "ythdjfbhjlnplnaa", sum := "75a31f86803d416601fd6985bab8d16a7efbfc7ccd668e51553e19af2ea7b00d", func := "loop.example/g01033/laws.FnExactCountScales", spec := "fnExactCountScales", apart := false, narrowed := true }
def FnExactCountScalesUptoSaid : Prop := fnExactCountScalesUptoRow.holds Try.pinned (OpenSpec.upto fnExactCountScalesSpec)

/-- 'laws.FnExactRootOf', WHERE WHAT IT READS IS OF BULK AT MOST 1048576: true; the input reads as it did. -/
def fnExactRootOfUptoRow : OpenClaim := { program := "ythdjfbhjlnplnaa", sum := "75a31f86803d416601fd6985bab8d16a7efbfc7ccd668e51553e19af2ea7b00d", func := "loop.example/g01033/laws.FnExactRootOf", spec := "fnExactRootOf", unfollowed := true, recurses := true, apart := false, narrowed := true }
def FnExactRootOfUptoSaid : Prop := fnExactRootOfUptoRow.holds Try.pinned (OpenSpec.upto fnExactRootOfSpec)

/-- 'laws.FnExactDivRound', WHERE WHAT IT READS IS OF BULK AT MOST 1048576: true; the input reads as it did. -/
def fnExactDivRoundUptoRow : OpenClaim := { program := "ythdjfbhjlnplnaa", sum := "75a31f86803d416601fd6985bab8d16a7efbfc7ccd668e51553e19af2ea7b00d", func := "loop.example/g01033/laws.FnExactDivRound", spec := "fnExactDivRound", apart := false, narrowed := true }
def FnExactDivRoundUptoSaid : Prop := fnExactDivRoundUptoRow.holds Try.pinned (OpenSpec.upto fnExactDivRoundSpec)

/-- 'laws.FnExactValidScale', WHERE WHAT IT READS IS OF BULK AT MOST 1048576: true; the input reads as it did. -/
def fnExactValidScaleUptoRow : OpenClaim := { program := "ythdjfbhjlnplnaa", sum := "75a31f86803d416601fd6985bab8d16a7efbfc7ccd668e51553e19af2ea7b00d", func := "loop.example/g01033/laws.FnExactValidScale", spec := "fnExactValidScale", apart := false, narrowed := true }
def FnExactValidScaleUptoSaid : Prop := fnExactValidScaleUptoRow.holds Try.pinned (OpenSpec.upto fnExactValidScaleSpec)

/-- 'laws.FnExactReduceRatio', WHERE WHAT IT READS IS OF BULK AT MOST 1048576: true; the input reads as it did. -/
def fnExactReduceRatioUptoRow : OpenClaim := { program := "ythdjfbhjlnplnaa", sum := "75a31f86803d416601fd6985bab8d16a7efbfc7ccd668e51553e19af2ea7b00d", func := "loop.example/g01033/laws.FnExactReduceRatio", spec := "fnExactReduceRatio", apart := false, narrowed := true }
def FnExactReduceRatioUptoSaid : Prop := fnExactReduceRatioUptoRow.holds Try.pinned (OpenSpec.upto fnExactReduceRatioSpec)

end Rows
end Go.Proofs.Ythdjfbhjlnplnaa
