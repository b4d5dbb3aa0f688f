/-
  No cell of these rows narrows 'for every input' (looked for: loops, veiled, ifaces, maps, wideKeys, modest, calm, conditions, laid).
  DERIVED. THE GIVEN ROWS OF THIS SEAT. 8 by the template 'for every input the law returns true; each argument reads behind the call as it read before'; 0 by the template 'total and deterministic' (their statements: YtojmkelgbcnfmaaTotals.lean).
  GIVEN WITH THE SEED: the statements are not yours to turn. If you find one false, say at which input.
  Laid BY PROGRAM, IN A SANDBOX (cutbox-rows.mjs): the forced cells as the released guide's own fill.sh prints them over the translation 969d41f5a344c2bb… (all of the seat's roots in one cut). By AI agents, Wed Nov 11 2026. No macro, syntax, notation, axiom, sorry.
-/
import Derived.Test.YtojmkelgbcnfmaaChecked
import GoSem.Claim
import GoSem.ClaimJoined
import GoSem.ClaimMapViews
import Derived.JoinedTies
import Derived.KernelRfl
namespace Go.Proofs.Ytojmkelgbcnfmaa
/- THE CELL 'sum', in the pinned program and in every row, IS THE sha256 OF THE DUMP (.gsa) THAT YtojmkelgbcnfmaaProg.lean LOADS. Nothing in Lean hashes anything: it is a label: what it is worth is what the hold of that sum in a sandbox is worth. -/
noncomputable def Try.pinned : Pinned := { name := "ytojmkelgbcnfmaa", sum := "969d41f5a344c2bb29556c88e834e5c68404063ab9291971c89a8f0e07662fa5", checked := Try.checked }
namespace Rows
def none {H : Type} : Left H := { results := [], args := [] }

/-- 'laws.FnExactValidRatio': WHATEVER THE INPUT: true; the input reads as it did. -/
def fnExactValidRatioSpec : ChangeSpec := { name := "fnExactValidRatio", fn := fun _ => fun
  | [d] => { results := [.lit (.bool true)], args := [d] }
  | _ => none }
def fnExactValidRatioRow : OpenClaim := { program := "ytojmkelgbcnfmaa", sum := "969d41f5a344c2bb29556c88e834e5c68404063ab9291971c89a8f0e07662fa5", func := "loop.example/g01033/laws.FnExactValidRatio", spec := "fnExactValidRatio", apart := false }
def FnExactValidRatioSaid : Prop := fnExactValidRatioRow.holds Try.pinned (OpenSpec.ofChange fnExactValidRatioSpec)

/-- ITS FALSE NEIGHBOUR: 'it returns false'. Refute it at one input. -/
def fnExactValidRatioWrong : ChangeSpec := { name := "fnExactValidRatio", fn := fun _ => fun
  | [d] => { results := [.lit (.bool false)], args := [d] }
  | _ => none }
def FnExactValidRatioWrongFalsely : Prop := fnExactValidRatioRow.holds Try.pinned (OpenSpec.ofChange fnExactValidRatioWrong)

/-- 'laws.FnExactReduceRatio': WHATEVER THE INPUT: true; the input reads as it did. -/
def fnExactReduceRatioSpec : ChangeSpec := { name := "fnExactReduceRatio", fn := fun _ => fun
  | [d1, d2] => { results := [.lit (.bool true)], args := [d1, d2] }
  | _ => none }
def fnExactReduceRatioRow : OpenClaim := { program := "ytojmkelgbcnfmaa", sum := "969d41f5a344c2bb29556c88e834e5c68404063ab9291971c89a8f0e07662fa5", func := "loop.example/g01033/laws.FnExactReduceRatio", spec := "fnExactReduceRatio", apart := false }
def FnExactReduceRatioSaid : Prop := fnExactReduceRatioRow.holds Try.pinned (OpenSpec.ofChange fnExactReduceRatioSpec)

/-- ITS FALSE NEIGHBOUR: 'it returns false'. Refute it at one input. -/
def fnExactReduceRatioWrong : ChangeSpec := { name := "fnExactReduceRatio", fn := fun _ => fun
  | [d1, d2] => { results := [.lit (.bool false)], args := [d1, d2] }
  | _ => none }
def FnExactReduceRatioWrongFalsely : Prop := fnExactReduceRatioRow.holds Try.pinned (OpenSpec.ofChange fnExactReduceRatioWrong)

/-- 'laws.FnExactBetweenRatios': WHATEVER THE INPUT: true; the input reads as it did. -/
def fnExactBetweenRatiosSpec : ChangeSpec := { name := "fnExactBetweenRatios", fn := fun _ => fun
  | [d1, d2] => { results := [.lit (.bool true)], args := [d1, d2] }
  | _ => none }
def fnExactBetweenRatiosRow : OpenClaim := { program := "ytojmkelgbcnfmaa", sum := "969d41f5a344c2bb29556c88e834e5c68404063ab9291971c89a8f0e07662fa5", func := "loop.example/g01033/laws.FnExactBetweenRatios", spec := "fnExactBetweenRatios", apart := false }
def FnExactBetweenRatiosSaid : Prop := fnExactBetweenRatiosRow.holds Try.pinned (OpenSpec.ofChange fnExactBetweenRatiosSpec)

/-- ITS FALSE NEIGHBOUR: 'it returns false'. Refute it at one input. -/
def fnExactBetweenRatiosWrong : ChangeSpec := { name := "fnExactBetweenRatios", fn := fun _ => fun
  | [d1, d2] => { results := [.lit (.bool false)], args := [d1, d2] }
  | _ => none }
def FnExactBetweenRatiosWrongFalsely : Prop := fnExactBetweenRatiosRow.holds Try.pinned (OpenSpec.ofChange fnExactBetweenRatiosWrong)

/-- 'laws.FnExactDivideRatios': WHATEVER THE INPUT: true; the input reads as it did. -/
def fnExactDivideRatiosSpec : ChangeSpec := { name := "fnExactDivideRatios", fn := fun _ => fun
  | [d1, d2] => { results := [.lit (.bool true)], args := [d1, d2] }
  | _ => none }
def fnExactDivideRatiosRow : OpenClaim := { program := "ytojmkelgbcnfmaa", sum := "969d41f5a344c2bb29556c88e834e5c68404063ab9291971c89a8f0e07662fa5", func := "loop.example/g01033/laws.FnExactDivideRatios", spec := "fnExactDivideRatios", apart := false }
def FnExactDivideRatiosSaid : Prop := fnExactDivideRatiosRow.holds Try.pinned (OpenSpec.ofChange fnExactDivideRatiosSpec)

/-- ITS FALSE NEIGHBOUR: 'it returns false'. Refute it at one input. -/
def fnExactDivideRatiosWrong : ChangeSpec := { name := "fnExactDivideRatios", fn := fun _ => fun
  | [d1, d2] => { results := [.lit (.bool false)], args := [d1, d2] }
  | _ => none }
def FnExactDivideRatiosWrongFalsely : Prop := fnExactDivideRatiosRow.holds Try.pinned (OpenSpec.ofChange fnExactDivideRatiosWrong)

/-- 'laws.FnExactMultiplyRatios': WHATEVER THE INPUT: true; the input reads as it did. -/
def fnExactMultiplyRatiosSpec : ChangeSpec := { name := "fnExactMultiplyRatios", fn := fun _ => fun
  | [d1, d2] => { results := [.lit (.bool true)], args := [d1, d2] }
  | _ => none }
def fnExactMultiplyRatiosRow : OpenClaim := { program := "ytojmkelgbcnfmaa", sum := "969d41f5a344c2bb29556c88e834e5c68404063ab9291971c89a8f0e07662fa5", func := "loop.example/g01033/laws.FnExactMultiplyRatios", spec := "fnExactMultiplyRatios", apart := false }
def FnExactMultiplyRatiosSaid : Prop := fnExactMultiplyRatiosRow.holds Try.pinned (OpenSpec.ofChange fnExactMultiplyRatiosSpec)

/-- ITS FALSE NEIGHBOUR: 'it returns false'. Refute it at one input. -/
def fnExactMultiplyRatiosWrong : ChangeSpec := { name := "fnExactMultiplyRatios", fn := fun _ => fun
  | [d1, d2] => { results := [.lit (.bool false)], args := [d1, d2] }
  | _ => none }
def FnExactMultiplyRatiosWrongFalsely : Prop := fnExactMultiplyRatiosRow.holds Try.pinned (OpenSpec.ofChange fnExactMultiplyRatiosWrong)

/-- 'laws.FnExactCompareRatios': WHATEVER THE INPUT: true; the input reads as it did. -/
def fnExactCompareRatiosSpec : ChangeSpec := { name := "fnExactCompareRatios", fn := fun _ => fun
  | [d1, d2] => { results := [.lit (.bool true)], args := [d1, d2] }
  | _ => none }
def fnExactCompareRatiosRow : OpenClaim := { program := "ytojmkelgbcnfmaa", sum := "969d41f5a344c2bb29556c88e834e5c68404063ab9291971c89a8f0e07662fa5", func := "loop.example/g01033/laws.FnExactCompareRatios", spec := "fnExactCompareRatios", apart := false }
def FnExactCompareRatiosSaid : Prop := fnExactCompareRatiosRow.holds Try.pinned (OpenSpec.ofChange fnExactCompareRatiosSpec)

/-- ITS FALSE NEIGHBOUR: 'it returns false'. Refute it at one input. -/
def fnExactCompareRatiosWrong : ChangeSpec := { name := "fnExactCompareRatios", fn := fun _ => fun
  | [d1, d2] => { results := [.lit (.bool false)], args := [d1, d2] }
  | _ => none }
def FnExactCompareRatiosWrongFalsely : Prop := fnExactCompareRatiosRow.holds Try.pinned (OpenSpec.ofChange fnExactCompareRatiosWrong)

/-- 'laws.FnExactPowerRatio': WHATEVER THE INPUT: true; the input reads as it did. -/
def fnExactPowerRatioSpec : ChangeSpec := { name := "fnExactPowerRatio", fn := fun _ => fun
  | [d1, d2] => { results := [.lit (.bool true)], args := [d1, d2] }
  | _ => none }
def fnExactPowerRatioRow : OpenClaim := { program := "ytojmkelgbcnfmaa", sum := "969d41f5a344c2bb29556c88e834e5c68404063ab9291971c89a8f0e07662fa5", func := "loop.example/g01033/laws.FnExactPowerRatio", spec := "fnExactPowerRatio", apart := false }
def FnExactPowerRatioSaid : Prop := fnExactPowerRatioRow.holds Try.pinned (OpenSpec.ofChange fnExactPowerRatioSpec)

/-- ITS FALSE NEIGHBOUR: 'it returns false'. Refute it at one input. -/
def fnExactPowerRatioWrong : ChangeSpec := { name := "fnExactPowerRatio", fn := fun _ => fun
  | [d1, d2] => { results := [.lit (.bool false)], args := [d1, d2] }
  | _ => none }
def FnExactPowerRatioWrongFalsely : Prop := fnExactPowerRatioRow.holds Try.pinned (OpenSpec.ofChange fnExactPowerRatioWrong)

/-- 'laws.FnExactOctaveOf': WHATEVER THE INPUT: true; the input reads as it did. -/
def fnExactOctaveOfSpec : ChangeSpec := { name := "fnExactOctaveOf", fn := fun _ => fun
  | [d] => { results := [.lit (.bool true)], args := [d] }
  | _ => none }
def fnExactOctaveOfRow : OpenClaim := { program := "ytojmkelgbcnfmaa", sum := "969d41f5a344c2bb29556c88e834e5c68404063ab9291971c89a8f0e07662fa5", func := "loop.example/g01033/laws.FnExactOctaveOf", spec := "fnExactOctaveOf", apart := false }
def FnExactOctaveOfSaid : Prop := fnExactOctaveOfRow.holds Try.pinned (OpenSpec.ofChange fnExactOctaveOfSpec)

/-- ITS FALSE NEIGHBOUR: 'it returns false'. Refute it at one input. -/
def fnExactOctaveOfWrong : ChangeSpec := { name := "fnExactOctaveOf", fn := fun _ => fun
  | [d] => { results := [.lit (.bool false)], args := [d] }
  | _ => none }
def FnExactOctaveOfWrongFalsely : Prop := fnExactOctaveOfRow.holds Try.pinned (OpenSpec.ofChange fnExactOctaveOfWrong)

/- THE SECOND FORM. 'bulk': how many values and letters a reading holds, each counted each time it is reached (what is shared counts as often as it is met; a slice's spare places count too). A statement '..UptoSaid' is the law's where the arguments, and the package variables that the reading takes, are together of bulk at most 1048576: NARROWER than '..Said'. Prove '..Said' where nothing that the law and all that it calls make is longer than what came in: it says more and counts as full. Else prove '..UptoSaid'. A law counts once. -/
mutual
def uptoBulk {H : Type} : DataW H → Nat
  | .lit (.string bytes) => bytes.length + 1
  | .lit _ => 1
  | .nil => 1
  | .ptr d => uptoBulk d + 1
  | .slice elems spare => uptoBulkAll elems + uptoBulkAll spare + 1
  | .agg parts => uptoBulkAll parts + 1
  | .iface _ d => uptoBulk d + 1
  | .map entries => uptoBulkEntries entries + 1
  | .held _ => 1
def uptoBulkAll {H : Type} : List (DataW H) → Nat
  | [] => 0
  | d :: r => uptoBulk d + uptoBulkAll r
def uptoBulkEntries {H : Type} : List (Lit × DataW H) → Nat
  | [] => 0
  | x :: r => uptoBulkEntry x + uptoBulkEntries r
def uptoBulkEntry {H : Type} : Lit × DataW H → Nat
  | (.string bytes, d) => bytes.length + uptoBulk d + 1
  | (_, d) => uptoBulk d + 1
 end
def uptoSmall : (H : Type) → List (DataW H) → Bool := fun _ ds => decide (uptoBulkAll ds ≤ 1048576)
def OpenSpec.upto (s : _root_.Go.ChangeSpec) : _root_.Go.OpenSpec := { _root_.Go.OpenSpec.ofChange s with cond := some uptoSmall }

/-- 'laws.FnExactValidRatio', WHERE WHAT IT READS IS OF BULK AT MOST 1048576: true; the input reads as it did. -/
def fnExactValidRatioUptoRow : OpenClaim := { program := "ytojmkelgbcnfmaa", sum := "969d41f5a344c2bb29556c88e834e5c68404063ab9291971c89a8f0e07662fa5", func := "loop.example/g01033/laws.FnExactValidRatio", spec := "fnExactValidRatio", apart := false, narrowed := true }
def FnExactValidRatioUptoSaid : Prop := fnExactValidRatioUptoRow.holds Try.pinned (OpenSpec.upto fnExactValidRatioSpec)

/-- 'laws.FnExactReduceRatio', WHERE WHAT IT READS IS OF BULK AT MOST 1048576: true; the input reads as it did. -/
def fnExactReduceRatioUptoRow : OpenClaim := { program := "ytojmkelgbcnfmaa", sum := "969d41f5a344c2bb29556c88e834e5c68404063ab9291971c89a8f0e07662fa5", func := "loop.example/g01033/laws.FnExactReduceRatio", spec := "fnExactReduceRatio", apart := false, narrowed := true }
def FnExactReduceRatioUptoSaid : Prop := fnExactReduceRatioUptoRow.holds Try.pinned (OpenSpec.upto fnExactReduceRatioSpec)

/-- 'laws.FnExactBetweenRatios', WHERE WHAT IT READS IS OF BULK AT MOST 1048576: true; the input reads as it did. -/
def fnExactBetweenRatiosUptoRow : OpenClaim := { program := "ytojmkelgbcnfmaa", sum := "969d41f5a344c2bb29556c88e834e5c68404063ab9291971c89a8f0e07662fa5", func := "loop.example/g01033/laws.FnExactBetweenRatios", spec := "fnExactBetweenRatios", apart := false, narrowed := true }
def FnExactBetweenRatiosUptoSaid : Prop := fnExactBetweenRatiosUptoRow.holds Try.pinned (OpenSpec.upto fnExactBetweenRatiosSpec)

/-- 'laws.FnExactDivideRatios', WHERE WHAT IT READS IS OF BULK AT MOST 1048576: true; the input reads as it did. -/
def fnExactDivideRatiosUptoRow : OpenClaim := { program := "ytojmkelgbcnfmaa", sum := "969d41f5a344c2bb29556c88e834e5c68404063ab9291971c89a8f0e07662fa5", func := "loop.example/g01033/laws.FnExactDivideRatios", spec := "fnExactDivideRatios", apart := false, narrowed := true }
def FnExactDivideRatiosUptoSaid : Prop := fnExactDivideRatiosUptoRow.holds Try.pinned (OpenSpec.upto fnExactDivideRatiosSpec)

/-- 'laws.FnExactMultiplyRatios', WHERE WHAT IT READS IS OF BULK AT MOST 1048576: true; the input reads as it did. -/
def fnExactMultiplyRatiosUptoRow : OpenClaim := { program := "ytojmkelgbcnfmaa", sum := "969d41f5a344c2bb29556c88e834e5c68404063ab9291971c89a8f0e07662fa5", func := "loop.example/g01033/laws.FnExactMultiplyRatios", spec := "fnExactMultiplyRatios", apart := false, narrowed := true }
def FnExactMultiplyRatiosUptoSaid : Prop := fnExactMultiplyRatiosUptoRow.holds Try.pinned (OpenSpec.upto fnExactMultiplyRatiosSpec)

/-- 'laws.FnExactCompareRatios', WHERE WHAT IT READS IS OF BULK AT MOST 1048576: true; the input reads as it did. -/
def fnExactCompareRatiosUptoRow : OpenClaim := { program := "ytojmkelgbcnfmaa", sum := "969d41f5a344c2bb29556c88e834e5c68404063ab9291971c89a8f0e07662fa5", func := "loop.example/g01033/laws.FnExactCompareRatios", spec := "fnExactCompareRatios", apart := false, narrowed := true }
def FnExactCompareRatiosUptoSaid : Prop := fnExactCompareRatiosUptoRow.holds Try.pinned (OpenSpec.upto fnExactCompareRatiosSpec)

/-- 'laws.FnExactPowerRatio', WHERE WHAT IT READS IS OF BULK AT MOST 1048576: true; the input reads as it did. -/
def fnExactPowerRatioUptoRow : OpenClaim := { program := "ytojmkelgbcnfmaa", sum := "969d41f5a344c2bb29556c88e834e5c68404063ab9291971c89a8f0e07662fa5", func := "loop.example/g01033/laws.FnExactPowerRatio", spec := "fnExactPowerRatio", apart := false, narrowed := true }
def FnExactPowerRatioUptoSaid : Prop := fnExactPowerRatioUptoRow.holds Try.pinned (OpenSpec.upto fnExactPowerRatioSpec)

/-- 'laws.FnExactOctaveOf', WHERE WHAT IT READS IS OF BULK AT MOST 1048576: true; the input reads as it did. -/
def fnExactOctaveOfUptoRow : OpenClaim := { program := "ytojmkelgbcnfmaa", sum := "969d41f5a344c2bb29556c88e834e5c68404063ab9291971c89a8f0e07662fa5", func := "loop.example/g01033/laws.FnExactOctaveOf", spec := "fnExactOctaveOf", apart := false, narrowed := true }
def FnExactOctaveOfUptoSaid : Prop := fnExactOctaveOfUptoRow.holds Try.pinned (OpenSpec.upto fnExactOctaveOfSpec)

end Rows
end Go.Proofs.Ytojmkelgbcnfmaa
