/-
  No cell of these rows narrows 'for every input' (looked for: loops, veiled, ifaces, maps, wideKeys, modest, calm, conditions, laid).
  DERIVED. THE GIVEN ROWS OF THIS SEAT. 7 by the template 'for every input the law returns true; each argument reads behind the call as it read before'; 0 by the template 'total and deterministic' (their statements: YtigjcobannhdlaaTotals.lean).
  GIVEN WITH THE SEED: the statements are not yours to turn. If you find one false, say at which input.
  Laid BY PROGRAM, IN A SANDBOX (cutbox-rows.mjs): the forced cells as the released guide's own fill.sh prints them over the translation 69418136dbfd4dad… (all of the seat's roots in one cut). By AI agents, Wed Nov 11 2026. No macro, syntax, notation, axiom, sorry.
-/
import Derived.Test.YtigjcobannhdlaaChecked
import GoSem.Claim
import GoSem.ClaimJoined
import GoSem.ClaimMapViews
import Derived.JoinedTies
import Derived.KernelRfl
namespace Go.Proofs.Ytigjcobannhdlaa
/- THE CELL 'sum', in the pinned program and in every row, IS THE sha256 OF THE DUMP (.gsa) THAT YtigjcobannhdlaaProg.lean LOADS. Nothing in Lean hashes anything: it is a label: what it is worth is what the hold of that sum in a sandbox is worth. -/
noncomputable def Try.pinned : Pinned := { name := "ytigjcobannhdlaa", sum := "69418136dbfd4dad9e859e95bc4911f65b8db6eba8bab70cc5fe2d19bdc85847", checked := Try.checked }
namespace Rows
def none {H : Type} : Left H := { results := [], args := [] }

/-- 'laws.FnExactJustTuning': WHATEVER THE INPUT: true; the input reads as it did. -/
def fnExactJustTuningSpec : ChangeSpec := { name := "fnExactJustTuning", fn := fun _ => fun
  | [] => { results := [.lit (.bool true)], args := [] }
  | _ => none }
def fnExactJustTuningRow : OpenClaim := { program := "ytigjcobannhdlaa", sum := "69418136dbfd4dad9e859e95bc4911f65b8db6eba8bab70cc5fe2d19bdc85847", func := "loop.example/g01033/laws.FnExactJustTuning", spec := "fnExactJustTuning", apart := false }
def FnExactJustTuningSaid : Prop := fnExactJustTuningRow.holds Try.pinned (OpenSpec.ofChange fnExactJustTuningSpec)

/-- ITS FALSE NEIGHBOUR: 'it returns false'. Refute it at one input. -/
def fnExactJustTuningWrong : ChangeSpec := { name := "fnExactJustTuning", fn := fun _ => fun
  | [] => { results := [.lit (.bool false)], args := [] }
  | _ => none }
def FnExactJustTuningWrongFalsely : Prop := fnExactJustTuningRow.holds Try.pinned (OpenSpec.ofChange fnExactJustTuningWrong)

/-- 'laws.FnExactSameTuning': WHATEVER THE INPUT: true; the input reads as it did. -/
def fnExactSameTuningSpec : ChangeSpec := { name := "fnExactSameTuning", fn := fun _ => fun
  | [d1, d2] => { results := [.lit (.bool true)], args := [d1, d2] }
  | _ => none }
def fnExactSameTuningRow : OpenClaim := { program := "ytigjcobannhdlaa", sum := "69418136dbfd4dad9e859e95bc4911f65b8db6eba8bab70cc5fe2d19bdc85847", func := "loop.example/g01033/laws.FnExactSameTuning", spec := "fnExactSameTuning", apart := false }
def FnExactSameTuningSaid : Prop := fnExactSameTuningRow.holds Try.pinned (OpenSpec.ofChange fnExactSameTuningSpec)

/-- ITS FALSE NEIGHBOUR: 'it returns false'. Refute it at one input. -/
def fnExactSameTuningWrong : ChangeSpec := { name := "fnExactSameTuning", fn := fun _ => fun
  | [d1, d2] => { results := [.lit (.bool false)], args := [d1, d2] }
  | _ => none }
def FnExactSameTuningWrongFalsely : Prop := fnExactSameTuningRow.holds Try.pinned (OpenSpec.ofChange fnExactSameTuningWrong)

/-- 'laws.FnExactValidTuning': WHATEVER THE INPUT: true; the input reads as it did. -/
def fnExactValidTuningSpec : ChangeSpec := { name := "fnExactValidTuning", fn := fun _ => fun
  | [d] => { results := [.lit (.bool true)], args := [d] }
  | _ => none }
def fnExactValidTuningRow : OpenClaim := { program := "ytigjcobannhdlaa", sum := "69418136dbfd4dad9e859e95bc4911f65b8db6eba8bab70cc5fe2d19bdc85847", func := "loop.example/g01033/laws.FnExactValidTuning", spec := "fnExactValidTuning", apart := false }
def FnExactValidTuningSaid : Prop := fnExactValidTuningRow.holds Try.pinned (OpenSpec.ofChange fnExactValidTuningSpec)

/-- ITS FALSE NEIGHBOUR: 'it returns false'. Refute it at one input. -/
def fnExactValidTuningWrong : ChangeSpec := { name := "fnExactValidTuning", fn := fun _ => fun
  | [d] => { results := [.lit (.bool false)], args := [d] }
  | _ => none }
def FnExactValidTuningWrongFalsely : Prop := fnExactValidTuningRow.holds Try.pinned (OpenSpec.ofChange fnExactValidTuningWrong)

/-- 'laws.FnExactTuneTone': WHATEVER THE INPUT: true; the input reads as it did. -/
def fnExactTuneToneSpec : ChangeSpec := { name := "fnExactTuneTone", fn := fun _ => fun
  | [d1, d2, d3] => { results := [.lit (.bool true)], args := [d1, d2, d3] }
  | _ => none }
def fnExactTuneToneRow : OpenClaim := { program := "ytigjcobannhdlaa", sum := "69418136dbfd4dad9e859e95bc4911f65b8db6eba8bab70cc5fe2d19bdc85847", func := "loop.example/g01033/laws.FnExactTuneTone", spec := "fnExactTuneTone", apart := false }
def FnExactTuneToneSaid : Prop := fnExactTuneToneRow.holds Try.pinned (OpenSpec.ofChange fnExactTuneToneSpec)

/-- ITS FALSE NEIGHBOUR: 'it returns false'. Refute it at one input. -/
def fnExactTuneToneWrong : ChangeSpec := { name := "fnExactTuneTone", fn := fun _ => fun
  | [d1, d2, d3] => { results := [.lit (.bool false)], args := [d1, d2, d3] }
  | _ => none }
def FnExactTuneToneWrongFalsely : Prop := fnExactTuneToneRow.holds Try.pinned (OpenSpec.ofChange fnExactTuneToneWrong)

/-- 'laws.FnExactFrequencyOf': WHATEVER THE INPUT: true; the input reads as it did. -/
def fnExactFrequencyOfSpec : ChangeSpec := { name := "fnExactFrequencyOf", fn := fun _ => fun
  | [d1, d2, d3] => { results := [.lit (.bool true)], args := [d1, d2, d3] }
  | _ => none }
def fnExactFrequencyOfRow : OpenClaim := { program := "ytigjcobannhdlaa", sum := "69418136dbfd4dad9e859e95bc4911f65b8db6eba8bab70cc5fe2d19bdc85847", func := "loop.example/g01033/laws.FnExactFrequencyOf", spec := "fnExactFrequencyOf", unfollowed := true, recurses := true, apart := false }
def FnExactFrequencyOfSaid : Prop := fnExactFrequencyOfRow.holds Try.pinned (OpenSpec.ofChange fnExactFrequencyOfSpec)

/-- ITS FALSE NEIGHBOUR: 'it returns false'. Refute it at one input. -/
def fnExactFrequencyOfWrong : ChangeSpec := { name := "fnExactFrequencyOf", fn := fun _ => fun
  | [d1, d2, d3] => { results := [.lit (.bool false)], args := [d1, d2, d3] }
  | _ => none }
def FnExactFrequencyOfWrongFalsely : Prop := fnExactFrequencyOfRow.holds Try.pinned (OpenSpec.ofChange fnExactFrequencyOfWrong)

/-- 'laws.FnExactBeatingOf': WHATEVER THE INPUT: true; the input reads as it did. -/
def fnExactBeatingOfSpec : ChangeSpec := { name := "fnExactBeatingOf", fn := fun _ => fun
  | [d1, d2, d3, d4, d5, d6] => { results := [.lit (.bool true)], args := [d1, d2, d3, d4, d5, d6] }
  | _ => none }
def fnExactBeatingOfRow : OpenClaim := { program := "ytigjcobannhdlaa", sum := "69418136dbfd4dad9e859e95bc4911f65b8db6eba8bab70cc5fe2d19bdc85847", func := "loop.example/g01033/laws.FnExactBeatingOf", spec := "fnExactBeatingOf", unfollowed := true, recurses := true, apart := false }
def FnExactBeatingOfSaid : Prop := fnExactBeatingOfRow.holds Try.pinned (OpenSpec.ofChange fnExactBeatingOfSpec)

/-- ITS FALSE NEIGHBOUR: 'it returns false'. Refute it at one input. -/
def fnExactBeatingOfWrong : ChangeSpec := { name := "fnExactBeatingOf", fn := fun _ => fun
  | [d1, d2, d3, d4, d5, d6] => { results := [.lit (.bool false)], args := [d1, d2, d3, d4, d5, d6] }
  | _ => none }
def FnExactBeatingOfWrongFalsely : Prop := fnExactBeatingOfRow.holds Try.pinned (OpenSpec.ofChange fnExactBeatingOfWrong)

/-- 'laws.FnExactPureBeats': WHATEVER THE INPUT: true; the input reads as it did. -/
def fnExactPureBeatsSpec : ChangeSpec := { name := "fnExactPureBeats", fn := fun _ => fun
  | [d1, d2, d3, d4] => { results := [.lit (.bool true)], args := [d1, d2, d3, d4] }
  | _ => none }
def fnExactPureBeatsRow : OpenClaim := { program := "ytigjcobannhdlaa", sum := "69418136dbfd4dad9e859e95bc4911f65b8db6eba8bab70cc5fe2d19bdc85847", func := "loop.example/g01033/laws.FnExactPureBeats", spec := "fnExactPureBeats", unfollowed := true, recurses := true, apart := false }
def FnExactPureBeatsSaid : Prop := fnExactPureBeatsRow.holds Try.pinned (OpenSpec.ofChange fnExactPureBeatsSpec)

/-- ITS FALSE NEIGHBOUR: 'it returns false'. Refute it at one input. -/
def fnExactPureBeatsWrong : ChangeSpec := { name := "fnExactPureBeats", fn := fun _ => fun
  | [d1, d2, d3, d4] => { results := [.lit (.bool false)], args := [d1, d2, d3, d4] }
  | _ => none }
def FnExactPureBeatsWrongFalsely : Prop := fnExactPureBeatsRow.holds Try.pinned (OpenSpec.ofChange fnExactPureBeatsWrong)

/- THE SECOND FORM. 'bulk': how many values and letters a reading holds, each counted each time it is reached (what is shared counts as often as it is met; a slice's spare places count too). A statement '..UptoSaid' is the law's where the arguments, and the package variables that the reading takes, are together of bulk at most 1048576: NARROWER than '..Said'. Prove '..Said' where nothing that the law and all that it calls make is longer than what came in: it says more and counts as full. Else prove '..UptoSaid'. A law counts once. -/
mutual
def uptoBulk {H : Type} : DataW H → Nat
  | .lit (.string bytes) => bytes.length + 1
  | .lit _ => 1
  | .nil => 1
  | .ptr d => uptoBulk d + 1
  | .slice elems spare => uptoBulkAll elems + uptoBulkAll spare + 1
  | .agg parts => uptoBulkAll parts + 1
  | .iface _ d => uptoBulk d + 1
  | .map entries => uptoBulkEntries entries + 1
  | .held _ => 1
def uptoBulkAll {H : Type} : List (DataW H) → Nat
  | [] => 0
  | d :: r => uptoBulk d + uptoBulkAll r
def uptoBulkEntries {H : Type} : List (Lit × DataW H) → Nat
  | [] => 0
  | x :: r => uptoBulkEntry x + uptoBulkEntries r
def uptoBulkEntry {H : Type} : Lit × DataW H → Nat
  | (.string bytes, d) => bytes.length + uptoBulk d + 1
  | (_, d) => uptoBulk d + 1
 end
def uptoSmall : (H : Type) → List (DataW H) → Bool := fun _ ds => decide (uptoBulkAll ds ≤ 1048576)
def OpenSpec.upto (s : _root_.Go.ChangeSpec) : _root_.Go.OpenSpec := { _root_.Go.OpenSpec.ofChange s with cond := some uptoSmall }

/-- 'laws.FnExactJustTuning', WHERE WHAT IT READS IS OF BULK AT MOST 1048576: true; the input reads as it did. -/
def fnExactJustTuningUptoRow : OpenClaim := { program := "ytigjcobannhdlaa", sum := "69418136dbfd4dad9e859e95bc4911f65b8db6eba8bab70cc5fe2d19bdc85847", func := "loop.example/g01033/laws.FnExactJustTuning", spec := "fnExactJustTuning", apart := false, narrowed := true }
def FnExactJustTuningUptoSaid : Prop := fnExactJustTuningUptoRow.holds Try.pinned (OpenSpec.upto fnExactJustTuningSpec)

/-- 'laws.FnExactSameTuning', WHERE WHAT IT READS IS OF BULK AT MOST 1048576: true; the input reads as it did. -/
def fnExactSameTuningUptoRow : OpenClaim := { program := "ytigjcobannhdlaa", sum := "69418136dbfd4dad9e859e95bc4911f65b8db6eba8bab70cc5fe2d19bdc85847", func := "loop.example/g01033/laws.FnExactSameTuning", spec := "fnExactSameTuning", apart := false, narrowed := true }
def FnExactSameTuningUptoSaid : Prop := fnExactSameTuningUptoRow.holds Try.pinned (OpenSpec.upto fnExactSameTuningSpec)

/-- 'laws.FnExactValidTuning', WHERE WHAT IT READS IS OF BULK AT MOST 1048576: true; the input reads as it did. -/
def fnExactValidTuningUptoRow : OpenClaim := { program := "ytigjcobannhdlaa", sum := "69418136dbfd4dad9e859e95bc4911f65b8db6eba8bab70cc5fe2d19bdc85847", func := "loop.example/g01033/laws.FnExactValidTuning", spec := "fnExactValidTuning", apart := false, narrowed := true }
def FnExactValidTuningUptoSaid : Prop := fnExactValidTuningUptoRow.holds Try.pinned (OpenSpec.upto fnExactValidTuningSpec)

/-- 'laws.FnExactTuneTone', WHERE WHAT IT READS IS OF BULK AT MOST 1048576: true; the input reads as it did. -/
def fnExactTuneToneUptoRow : OpenClaim := { program := "ytigjcobannhdlaa", sum := "69418136dbfd4dad9e859e95bc4911f65b8db6eba8bab70cc5fe2d19bdc85847", func := "loop.example/g01033/laws.FnExactTuneTone", spec := "fnExactTuneTone", apart := false, narrowed := true }
def FnExactTuneToneUptoSaid : Prop := fnExactTuneToneUptoRow.holds Try.pinned (OpenSpec.upto fnExactTuneToneSpec)

/-- 'laws.FnExactFrequencyOf', WHERE WHAT IT READS IS OF BULK AT MOST 1048576: true; the input reads as it did. -/
def fnExactFrequencyOfUptoRow : OpenClaim := { program := "ytigjcobannhdlaa", sum := "69418136dbfd4dad9e859e95bc4911f65b8db6eba8bab70cc5fe2d19bdc85847", func := "loop.example/g01033/laws.FnExactFrequencyOf", spec := "fnExactFrequencyOf", unfollowed := true, recurses := true, apart := false, narrowed := true }
def FnExactFrequencyOfUptoSaid : Prop := fnExactFrequencyOfUptoRow.holds Try.pinned (OpenSpec.upto fnExactFrequencyOfSpec)

/-- 'laws.FnExactBeatingOf', WHERE WHAT IT READS IS OF BULK AT MOST 1048576: true; the input reads as it did. -/
def fnExactBeatingOfUptoRow : OpenClaim := { program := "ytigjcobannhdlaa", sum := "69418136dbfd4dad9e859e95bc4911f65b8db6eba8bab70cc5fe2d19bdc85847", func := "loop.example/g01033/laws.FnExactBeatingOf", spec := "fnExactBeatingOf", unfollowed := true, recurses := true, apart := false, narrowed := true }
def FnExactBeatingOfUptoSaid : Prop := fnExactBeatingOfUptoRow.holds Try.pinned (OpenSpec.upto fnExactBeatingOfSpec)

/-- 'laws.FnExactPureBeats', WHERE WHAT IT READS IS OF BULK AT MOST 1048576: true; the input reads as it did. -/
def fnExactPureBeatsUptoRow : OpenClaim := { program := "ytigjcobannhdlaa", sum := "69418136dbfd4dad9e859e95bc4911f65b8db6eba8bab70cc5fe2d19bdc85847", func := "loop.example/g01033/laws.FnExactPureBeats", spec := "fnExactPureBeats", unfollowed := true, recurses := true, apart := false, narrowed := true }
def FnExactPureBeatsUptoSaid : Prop := fnExactPureBeatsUptoRow.holds Try.pinned (OpenSpec.upto fnExactPureBeatsSpec)

end Rows
end Go.Proofs.Ytigjcobannhdlaa
