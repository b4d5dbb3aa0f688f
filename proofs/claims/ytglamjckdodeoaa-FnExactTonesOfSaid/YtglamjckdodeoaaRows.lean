/-
  No cell of these rows narrows 'for every input' (looked for: loops, veiled, ifaces, maps, wideKeys, modest, calm, conditions, laid).
  DERIVED. THE GIVEN ROWS OF THIS SEAT. 11 by the template 'for every input the law returns true; each argument reads behind the call as it read before'; 0 by the template 'total and deterministic' (their statements: YtglamjckdodeoaaTotals.lean).
  GIVEN WITH THE SEED: the statements are not yours to turn. If you find one false, say at which input.
  Laid BY PROGRAM, IN A SANDBOX (cutbox-rows.mjs): the forced cells as the released guide's own fill.sh prints them over the translation ba691859a9597503… (all of the seat's roots in one cut). By AI agents, Wed Nov 11 2026. No macro, syntax, notation, axiom, sorry.
-/
import Derived.Test.YtglamjckdodeoaaChecked
import GoSem.Claim
import GoSem.ClaimJoined
import GoSem.ClaimMapViews
import Derived.JoinedTies
import Derived.KernelRfl
namespace Go.Proofs.Ytglamjckdodeoaa
/- THE CELL 'sum', in the pinned program and in every row, IS THE sha256 OF THE DUMP (.gsa) THAT YtglamjckdodeoaaProg.lean LOADS. Nothing in Lean hashes anything: it is a label: what it is worth is what the hold of that sum in a sandbox is worth. -/
noncomputable def Try.pinned : Pinned := { name := "ytglamjckdodeoaa", sum := "ba691859a95975037a3231472c86c8092a1d7d3463e526a3ec7ee8163ba7d17f", checked := Try.checked }
namespace Rows
def none {H : Type} : Left H := { results := [], args := [] }

/-- 'laws.FnExactSameRaga': WHATEVER THE INPUT: true; the input reads as it did. -/
def fnExactSameRagaSpec : ChangeSpec := { name := "fnExactSameRaga", fn := fun _ => fun
  | [d1, d2] => { results := [.lit (.bool true)], args := [d1, d2] }
  | _ => none }
def fnExactSameRagaRow : OpenClaim := { program := "ytglamjckdodeoaa", sum := "ba691859a95975037a3231472c86c8092a1d7d3463e526a3ec7ee8163ba7d17f", func := "loop.example/g01033/laws.FnExactSameRaga", spec := "fnExactSameRaga", unfollowed := true, recurses := true, apart := false }
def FnExactSameRagaSaid : Prop := fnExactSameRagaRow.holds Try.pinned (OpenSpec.ofChange fnExactSameRagaSpec)

/-- ITS FALSE NEIGHBOUR: 'it returns false'. Refute it at one input. -/
def fnExactSameRagaWrong : ChangeSpec := { name := "fnExactSameRaga", fn := fun _ => fun
  | [d1, d2] => { results := [.lit (.bool false)], args := [d1, d2] }
  | _ => none }
def FnExactSameRagaWrongFalsely : Prop := fnExactSameRagaRow.holds Try.pinned (OpenSpec.ofChange fnExactSameRagaWrong)

/-- 'laws.FnExactValidRaga': WHATEVER THE INPUT: true; the input reads as it did. -/
def fnExactValidRagaSpec : ChangeSpec := { name := "fnExactValidRaga", fn := fun _ => fun
  | [d] => { results := [.lit (.bool true)], args := [d] }
  | _ => none }
def fnExactValidRagaRow : OpenClaim := { program := "ytglamjckdodeoaa", sum := "ba691859a95975037a3231472c86c8092a1d7d3463e526a3ec7ee8163ba7d17f", func := "loop.example/g01033/laws.FnExactValidRaga", spec := "fnExactValidRaga", apart := false }
def FnExactValidRagaSaid : Prop := fnExactValidRagaRow.holds Try.pinned (OpenSpec.ofChange fnExactValidRagaSpec)

/-- ITS FALSE NEIGHBOUR: 'it returns false'. Refute it at one input. -/
def fnExactValidRagaWrong : ChangeSpec := { name := "fnExactValidRaga", fn := fun _ => fun
  | [d] => { results := [.lit (.bool false)], args := [d] }
  | _ => none }
def FnExactValidRagaWrongFalsely : Prop := fnExactValidRagaRow.holds Try.pinned (OpenSpec.ofChange fnExactValidRagaWrong)

/-- 'laws.FnExactKindOf': WHATEVER THE INPUT: true; the input reads as it did. -/
def fnExactKindOfSpec : ChangeSpec := { name := "fnExactKindOf", fn := fun _ => fun
  | [d] => { results := [.lit (.bool true)], args := [d] }
  | _ => none }
def fnExactKindOfRow : OpenClaim := { program := "ytglamjckdodeoaa", sum := "ba691859a95975037a3231472c86c8092a1d7d3463e526a3ec7ee8163ba7d17f", func := "loop.example/g01033/laws.FnExactKindOf", spec := "fnExactKindOf", apart := false }
def FnExactKindOfSaid : Prop := fnExactKindOfRow.holds Try.pinned (OpenSpec.ofChange fnExactKindOfSpec)

/-- ITS FALSE NEIGHBOUR: 'it returns false'. Refute it at one input. -/
def fnExactKindOfWrong : ChangeSpec := { name := "fnExactKindOf", fn := fun _ => fun
  | [d] => { results := [.lit (.bool false)], args := [d] }
  | _ => none }
def FnExactKindOfWrongFalsely : Prop := fnExactKindOfRow.holds Try.pinned (OpenSpec.ofChange fnExactKindOfWrong)

/-- 'laws.FnExactRagaText': WHATEVER THE INPUT: true; the input reads as it did. -/
def fnExactRagaTextSpec : ChangeSpec := { name := "fnExactRagaText", fn := fun _ => fun
  | [d] => { results := [.lit (.bool true)], args := [d] }
  | _ => none }
def fnExactRagaTextRow : OpenClaim := { program := "ytglamjckdodeoaa", sum := "ba691859a95975037a3231472c86c8092a1d7d3463e526a3ec7ee8163ba7d17f", func := "loop.example/g01033/laws.FnExactRagaText", spec := "fnExactRagaText", apart := false }
def FnExactRagaTextSaid : Prop := fnExactRagaTextRow.holds Try.pinned (OpenSpec.ofChange fnExactRagaTextSpec)

/-- ITS FALSE NEIGHBOUR: 'it returns false'. Refute it at one input. -/
def fnExactRagaTextWrong : ChangeSpec := { name := "fnExactRagaText", fn := fun _ => fun
  | [d] => { results := [.lit (.bool false)], args := [d] }
  | _ => none }
def FnExactRagaTextWrongFalsely : Prop := fnExactRagaTextRow.holds Try.pinned (OpenSpec.ofChange fnExactRagaTextWrong)

/-- 'laws.FnExactTonesOf': WHATEVER THE INPUT: true; the input reads as it did. -/
def fnExactTonesOfSpec : ChangeSpec := { name := "fnExactTonesOf", fn := fun _ => fun
  | [d] => { results := [.lit (.bool true)], args := [d] }
  | _ => none }
def fnExactTonesOfRow : OpenClaim := { program := "ytglamjckdodeoaa", sum := "ba691859a95975037a3231472c86c8092a1d7d3463e526a3ec7ee8163ba7d17f", func := "loop.example/g01033/laws.FnExactTonesOf", spec := "fnExactTonesOf", apart := false }
def FnExactTonesOfSaid : Prop := fnExactTonesOfRow.holds Try.pinned (OpenSpec.ofChange fnExactTonesOfSpec)

/-- ITS FALSE NEIGHBOUR: 'it returns false'. Refute it at one input. -/
def fnExactTonesOfWrong : ChangeSpec := { name := "fnExactTonesOf", fn := fun _ => fun
  | [d] => { results := [.lit (.bool false)], args := [d] }
  | _ => none }
def FnExactTonesOfWrongFalsely : Prop := fnExactTonesOfRow.holds Try.pinned (OpenSpec.ofChange fnExactTonesOfWrong)

/-- 'laws.FnExactIsAllowed': WHATEVER THE INPUT: true; the input reads as it did. -/
def fnExactIsAllowedSpec : ChangeSpec := { name := "fnExactIsAllowed", fn := fun _ => fun
  | [d1, d2, d3] => { results := [.lit (.bool true)], args := [d1, d2, d3] }
  | _ => none }
def fnExactIsAllowedRow : OpenClaim := { program := "ytglamjckdodeoaa", sum := "ba691859a95975037a3231472c86c8092a1d7d3463e526a3ec7ee8163ba7d17f", func := "loop.example/g01033/laws.FnExactIsAllowed", spec := "fnExactIsAllowed", unfollowed := true, recurses := true, apart := false }
def FnExactIsAllowedSaid : Prop := fnExactIsAllowedRow.holds Try.pinned (OpenSpec.ofChange fnExactIsAllowedSpec)

/-- ITS FALSE NEIGHBOUR: 'it returns false'. Refute it at one input. -/
def fnExactIsAllowedWrong : ChangeSpec := { name := "fnExactIsAllowed", fn := fun _ => fun
  | [d1, d2, d3] => { results := [.lit (.bool false)], args := [d1, d2, d3] }
  | _ => none }
def FnExactIsAllowedWrongFalsely : Prop := fnExactIsAllowedRow.holds Try.pinned (OpenSpec.ofChange fnExactIsAllowedWrong)

/-- 'laws.FnExactStrengthOf': WHATEVER THE INPUT: true; the input reads as it did. -/
def fnExactStrengthOfSpec : ChangeSpec := { name := "fnExactStrengthOf", fn := fun _ => fun
  | [d1, d2] => { results := [.lit (.bool true)], args := [d1, d2] }
  | _ => none }
def fnExactStrengthOfRow : OpenClaim := { program := "ytglamjckdodeoaa", sum := "ba691859a95975037a3231472c86c8092a1d7d3463e526a3ec7ee8163ba7d17f", func := "loop.example/g01033/laws.FnExactStrengthOf", spec := "fnExactStrengthOf", unfollowed := true, recurses := true, apart := false }
def FnExactStrengthOfSaid : Prop := fnExactStrengthOfRow.holds Try.pinned (OpenSpec.ofChange fnExactStrengthOfSpec)

/-- ITS FALSE NEIGHBOUR: 'it returns false'. Refute it at one input. -/
def fnExactStrengthOfWrong : ChangeSpec := { name := "fnExactStrengthOf", fn := fun _ => fun
  | [d1, d2] => { results := [.lit (.bool false)], args := [d1, d2] }
  | _ => none }
def FnExactStrengthOfWrongFalsely : Prop := fnExactStrengthOfRow.holds Try.pinned (OpenSpec.ofChange fnExactStrengthOfWrong)

/-- 'laws.FnExactReasonOf': WHATEVER THE INPUT: true; the input reads as it did. -/
def fnExactReasonOfSpec : ChangeSpec := { name := "fnExactReasonOf", fn := fun _ => fun
  | [d1, d2, d3] => { results := [.lit (.bool true)], args := [d1, d2, d3] }
  | _ => none }
def fnExactReasonOfRow : OpenClaim := { program := "ytglamjckdodeoaa", sum := "ba691859a95975037a3231472c86c8092a1d7d3463e526a3ec7ee8163ba7d17f", func := "loop.example/g01033/laws.FnExactReasonOf", spec := "fnExactReasonOf", unfollowed := true, recurses := true, apart := false }
def FnExactReasonOfSaid : Prop := fnExactReasonOfRow.holds Try.pinned (OpenSpec.ofChange fnExactReasonOfSpec)

/-- ITS FALSE NEIGHBOUR: 'it returns false'. Refute it at one input. -/
def fnExactReasonOfWrong : ChangeSpec := { name := "fnExactReasonOf", fn := fun _ => fun
  | [d1, d2, d3] => { results := [.lit (.bool false)], args := [d1, d2, d3] }
  | _ => none }
def FnExactReasonOfWrongFalsely : Prop := fnExactReasonOfRow.holds Try.pinned (OpenSpec.ofChange fnExactReasonOfWrong)

/-- 'laws.FnExactSharedMoves': WHATEVER THE INPUT: true; the input reads as it did. -/
def fnExactSharedMovesSpec : ChangeSpec := { name := "fnExactSharedMoves", fn := fun _ => fun
  | [d1, d2] => { results := [.lit (.bool true)], args := [d1, d2] }
  | _ => none }
def fnExactSharedMovesRow : OpenClaim := { program := "ytglamjckdodeoaa", sum := "ba691859a95975037a3231472c86c8092a1d7d3463e526a3ec7ee8163ba7d17f", func := "loop.example/g01033/laws.FnExactSharedMoves", spec := "fnExactSharedMoves", unfollowed := true, recurses := true, apart := false }
def FnExactSharedMovesSaid : Prop := fnExactSharedMovesRow.holds Try.pinned (OpenSpec.ofChange fnExactSharedMovesSpec)

/-- ITS FALSE NEIGHBOUR: 'it returns false'. Refute it at one input. -/
def fnExactSharedMovesWrong : ChangeSpec := { name := "fnExactSharedMoves", fn := fun _ => fun
  | [d1, d2] => { results := [.lit (.bool false)], args := [d1, d2] }
  | _ => none }
def FnExactSharedMovesWrongFalsely : Prop := fnExactSharedMovesRow.holds Try.pinned (OpenSpec.ofChange fnExactSharedMovesWrong)

/-- 'laws.FnExactNextPitches': WHATEVER THE INPUT: true; the input reads as it did. -/
def fnExactNextPitchesSpec : ChangeSpec := { name := "fnExactNextPitches", fn := fun _ => fun
  | [d1, d2] => { results := [.lit (.bool true)], args := [d1, d2] }
  | _ => none }
def fnExactNextPitchesRow : OpenClaim := { program := "ytglamjckdodeoaa", sum := "ba691859a95975037a3231472c86c8092a1d7d3463e526a3ec7ee8163ba7d17f", func := "loop.example/g01033/laws.FnExactNextPitches", spec := "fnExactNextPitches", unfollowed := true, recurses := true, apart := false }
def FnExactNextPitchesSaid : Prop := fnExactNextPitchesRow.holds Try.pinned (OpenSpec.ofChange fnExactNextPitchesSpec)

/-- ITS FALSE NEIGHBOUR: 'it returns false'. Refute it at one input. -/
def fnExactNextPitchesWrong : ChangeSpec := { name := "fnExactNextPitches", fn := fun _ => fun
  | [d1, d2] => { results := [.lit (.bool false)], args := [d1, d2] }
  | _ => none }
def FnExactNextPitchesWrongFalsely : Prop := fnExactNextPitchesRow.holds Try.pinned (OpenSpec.ofChange fnExactNextPitchesWrong)

/-- 'laws.FnExactFirstWrong': WHATEVER THE INPUT: true; the input reads as it did. -/
def fnExactFirstWrongSpec : ChangeSpec := { name := "fnExactFirstWrong", fn := fun _ => fun
  | [d1, d2] => { results := [.lit (.bool true)], args := [d1, d2] }
  | _ => none }
def fnExactFirstWrongRow : OpenClaim := { program := "ytglamjckdodeoaa", sum := "ba691859a95975037a3231472c86c8092a1d7d3463e526a3ec7ee8163ba7d17f", func := "loop.example/g01033/laws.FnExactFirstWrong", spec := "fnExactFirstWrong", unfollowed := true, recurses := true, apart := false }
def FnExactFirstWrongSaid : Prop := fnExactFirstWrongRow.holds Try.pinned (OpenSpec.ofChange fnExactFirstWrongSpec)

/-- ITS FALSE NEIGHBOUR: 'it returns false'. Refute it at one input. -/
def fnExactFirstWrongWrong : ChangeSpec := { name := "fnExactFirstWrong", fn := fun _ => fun
  | [d1, d2] => { results := [.lit (.bool false)], args := [d1, d2] }
  | _ => none }
def FnExactFirstWrongWrongFalsely : Prop := fnExactFirstWrongRow.holds Try.pinned (OpenSpec.ofChange fnExactFirstWrongWrong)

/- THE SECOND FORM. 'bulk': how many values and letters a reading holds, each counted each time it is reached (what is shared counts as often as it is met; a slice's spare places count too). A statement '..UptoSaid' is the law's where the arguments, and the package variables that the reading takes, are together of bulk at most 1048576: NARROWER than '..Said'. Prove '..Said' where nothing that the law and all that it calls make is longer than what came in: it says more and counts as full. Else prove '..UptoSaid'. A law counts once. -/
mutual
def uptoBulk {H : Type} : DataW H → Nat
  | .lit (.string bytes) => bytes.length + 1
  | .lit _ => 1
  | .nil => 1
  | .ptr d => uptoBulk d + 1
  | .slice elems spare => uptoBulkAll elems + uptoBulkAll spare + 1
  | .agg parts => uptoBulkAll parts + 1
  | .iface _ d => uptoBulk d + 1
  | .map entries => uptoBulkEntries entries + 1
  | .held _ => 1
def uptoBulkAll {H : Type} : List (DataW H) → Nat
  | [] => 0
  | d :: r => uptoBulk d + uptoBulkAll r
def uptoBulkEntries {H : Type} : List (Lit × DataW H) → Nat
  | [] => 0
  | x :: r => uptoBulkEntry x + uptoBulkEntries r
def uptoBulkEntry {H : Type} : Lit × DataW H → Nat
  | (.string bytes, d) => bytes.length + uptoBulk d + 1
  | (_, d) => uptoBulk d + 1
 end
def uptoSmall : (H : Type) → List (DataW H) → Bool := fun _ ds => decide (uptoBulkAll ds ≤ 1048576)
def OpenSpec.upto (s : _root_.Go.ChangeSpec) : _root_.Go.OpenSpec := { _root_.Go.OpenSpec.ofChange s with cond := some uptoSmall }

/-- 'laws.FnExactSameRaga', WHERE WHAT IT READS IS OF BULK AT MOST 1048576: true; the input reads as it did. -/
def fnExactSameRagaUptoRow : OpenClaim := { program := "ytglamjckdodeoaa", sum := "ba691859a95975037a3231472c86c8092a1d7d3463e526a3ec7ee8163ba7d17f", func := "loop.example/g01033/laws.FnExactSameRaga", spec := "fnExactSameRaga", unfollowed := true, recurses := true, apart := false, narrowed := true }
def FnExactSameRagaUptoSaid : Prop := fnExactSameRagaUptoRow.holds Try.pinned (OpenSpec.upto fnExactSameRagaSpec)

/-- 'laws.FnExactValidRaga', WHERE WHAT IT READS IS OF BULK AT MOST 1048576: true; the input reads as it did. -/
def fnExactValidRagaUptoRow : OpenClaim := { program := "ytglamjckdodeoaa", sum := "ba691859a95975037a3231472c86c8092a1d7d3463e526a3ec7ee8163ba7d17f", func := "loop.example/g01033/laws.FnExactValidRaga", spec := "fnExactValidRaga", apart := false, narrowed := true }
def FnExactValidRagaUptoSaid : Prop := fnExactValidRagaUptoRow.holds Try.pinned (OpenSpec.upto fnExactValidRagaSpec)

/-- 'laws.FnExactKindOf', WHERE WHAT IT READS IS OF BULK AT MOST 1048576: true; the input reads as it did. -/
def fnExactKindOfUptoRow : OpenClaim := { program := "ytglamjckdodeoaa", sum := "ba691859a95975037a3231472c86c8092a1d7d3463e526a3ec7ee8163ba7d17f", func := "loop.example/g01033/laws.FnExactKindOf", spec := "fnExactKindOf", apart := false, narrowed := true }
def FnExactKindOfUptoSaid : Prop := fnExactKindOfUptoRow.holds Try.pinned (OpenSpec.upto fnExactKindOfSpec)

/-- 'laws.FnExactRagaText', WHERE WHAT IT READS IS OF BULK AT MOST 1048576: true; the input reads as it did. -/
def fnExactRagaTextUptoRow : OpenClaim := { program := "ytglamjckdodeoaa", sum := "ba691859a95975037a3231472c86c8092a1d7d3463e526a3ec7ee8163ba7d17f", func := "loop.example/g01033/laws.FnExactRagaText", spec := "fnExactRagaText", apart := false, narrowed := true }
def FnExactRagaTextUptoSaid : Prop := fnExactRagaTextUptoRow.holds Try.pinned (OpenSpec.upto fnExactRagaTextSpec)

/-- 'laws.FnExactTonesOf', WHERE WHAT IT READS IS OF BULK AT MOST 1048576: true; the input reads as it did. -/
def fnExactTonesOfUptoRow : OpenClaim := { program := "ytglamjckdodeoaa", sum := "ba691859a95975037a3231472c86c8092a1d7d3463e526a3ec7ee8163ba7d17f", func := "loop.example/g01033/laws.FnExactTonesOf", spec := "fnExactTonesOf", apart := false, narrowed := true }
def FnExactTonesOfUptoSaid : Prop := fnExactTonesOfUptoRow.holds Try.pinned (OpenSpec.upto fnExactTonesOfSpec)

/-- 'laws.FnExactIsAllowed', WHERE WHAT IT READS IS OF BULK AT MOST 1048576: true; the input reads as it did. -/
def fnExactIsAllowedUptoRow : OpenClaim := { program := "ytglamjckdodeoaa", sum := "ba691859a95975037a3231472c86c8092a1d7d3463e526a3ec7ee8163ba7d17f", func := "loop.example/g01033/laws.FnExactIsAllowed", spec := "fnExactIsAllowed", unfollowed := true, recurses := true, apart := false, narrowed := true }
def FnExactIsAllowedUptoSaid : Prop := fnExactIsAllowedUptoRow.holds Try.pinned (OpenSpec.upto fnExactIsAllowedSpec)

/-- 'laws.FnExactStrengthOf', WHERE WHAT IT READS IS OF BULK AT MOST 1048576: true; the input reads as it did. -/
def fnExactStrengthOfUptoRow : OpenClaim := { program := "ytglamjckdodeoaa", sum := "ba691859a95975037a3231472c86c8092a1d7d3463e526a3ec7ee8163ba7d17f", func := "loop.example/g01033/laws.FnExactStrengthOf", spec := "fnExactStrengthOf", unfollowed := true, recurses := true, apart := false, narrowed := true }
def FnExactStrengthOfUptoSaid : Prop := fnExactStrengthOfUptoRow.holds Try.pinned (OpenSpec.upto fnExactStrengthOfSpec)

/-- 'laws.FnExactReasonOf', WHERE WHAT IT READS IS OF BULK AT MOST 1048576: true; the input reads as it did. -/
def fnExactReasonOfUptoRow : OpenClaim := { program := "ytglamjckdodeoaa", sum := "ba691859a95975037a3231472c86c8092a1d7d3463e526a3ec7ee8163ba7d17f", func := "loop.example/g01033/laws.FnExactReasonOf", spec := "fnExactReasonOf", unfollowed := true, recurses := true, apart := false, narrowed := true }
def FnExactReasonOfUptoSaid : Prop := fnExactReasonOfUptoRow.holds Try.pinned (OpenSpec.upto fnExactReasonOfSpec)

/-- 'laws.FnExactSharedMoves', WHERE WHAT IT READS IS OF BULK AT MOST 1048576: true; the input reads as it did. -/
def fnExactSharedMovesUptoRow : OpenClaim := { program := "ytglamjckdodeoaa", sum := "ba691859a95975037a3231472c86c8092a1d7d3463e526a3ec7ee8163ba7d17f", func := "loop.example/g01033/laws.FnExactSharedMoves", spec := "fnExactSharedMoves", unfollowed := true, recurses := true, apart := false, narrowed := true }
def FnExactSharedMovesUptoSaid : Prop := fnExactSharedMovesUptoRow.holds Try.pinned (OpenSpec.upto fnExactSharedMovesSpec)

/-- 'laws.FnExactNextPitches', WHERE WHAT IT READS IS OF BULK AT MOST 1048576: true; the input reads as it did. -/
def fnExactNextPitchesUptoRow : OpenClaim := { program := "ytglamjckdodeoaa", sum := "ba691859a95975037a3231472c86c8092a1d7d3463e526a3ec7ee8163ba7d17f", func := "loop.example/g01033/laws.FnExactNextPitches", spec := "fnExactNextPitches", unfollowed := true, recurses := true, apart := false, narrowed := true }
def FnExactNextPitchesUptoSaid : Prop := fnExactNextPitchesUptoRow.holds Try.pinned (OpenSpec.upto fnExactNextPitchesSpec)

/-- 'laws.FnExactFirstWrong', WHERE WHAT IT READS IS OF BULK AT MOST 1048576: true; the input reads as it did. -/
def fnExactFirstWrongUptoRow : OpenClaim := { program := "ytglamjckdodeoaa", sum := "ba691859a95975037a3231472c86c8092a1d7d3463e526a3ec7ee8163ba7d17f", func := "loop.example/g01033/laws.FnExactFirstWrong", spec := "fnExactFirstWrong", unfollowed := true, recurses := true, apart := false, narrowed := true }
def FnExactFirstWrongUptoSaid : Prop := fnExactFirstWrongUptoRow.holds Try.pinned (OpenSpec.upto fnExactFirstWrongSpec)

end Rows
end Go.Proofs.Ytglamjckdodeoaa
