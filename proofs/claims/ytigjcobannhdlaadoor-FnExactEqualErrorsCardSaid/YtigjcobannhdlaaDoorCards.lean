/-
  DERIVED. GIVEN WITH THE SEED: THE CARDS: each row of YtigjcobannhdlaaDoorRows.lean that lists a variable, with what it lists TIED to the program's text (the seventh form; the later family's looks); each row that meets fmt, with fmt's text TOLD by the authors' own Lean function (tested against real Go, not proved from fmt's source: count such statements apart). THE CARD IS WHAT COUNTS. Prove the row's statement (the work); the ties are given (YtigjcobannhdlaaDoorTie.lean); close each card by the builder's one call (the guide's Derived/Test/ToyasCard.lean, 'card_holds'). Laid BY PROGRAM, IN A SANDBOX (cutbox-door.mjs). By AI agents, Wed Nov 11 2026. No macro, syntax, notation, axiom, sorry.
-/
import Derived.Test.YtigjcobannhdlaaDoorRows
import GoSem.ClaimSeven
namespace Go.Proofs.YtigjcobannhdlaaDoor
namespace Rows

/-- THE TIED CARD OF 'laws.FnExactWorstFifth'. -/
def fnExactWorstFifthCard : Claim7 := { stood := { row := fnExactWorstFifthRow, standIns := [], harness := (true, "25fd1fef52612cd1ec7b7ab0fdbf2fdfa9b1bc82c46d73e91bbd7916033deaf5"), looks := false }, kinds := [], alts := [], laidByText := true, laidKinds := [.data], laidTests := true, laidLooks := .later }
def FnExactWorstFifthCardSaid : Prop := Claim7.holds Tryd.pinned (.plain (OpenSpec.ofChange fnExactWorstFifthSpec)) fnExactWorstFifthCard

/-- THE TIED CARD OF 'laws.FnExactPitchCents'. -/
def fnExactPitchCentsCard : Claim7 := { stood := { row := fnExactPitchCentsRow, standIns := [], harness := (true, "25fd1fef52612cd1ec7b7ab0fdbf2fdfa9b1bc82c46d73e91bbd7916033deaf5"), looks := false }, kinds := [], alts := [], laidByText := true, laidKinds := [.data], laidTests := true, laidLooks := .later }
def FnExactPitchCentsCardSaid : Prop := Claim7.holds Tryd.pinned (.plain (OpenSpec.ofChange fnExactPitchCentsSpec)) fnExactPitchCentsCard

/-- THE TIED CARD OF 'laws.FnExactNearestTone'. -/
def fnExactNearestToneCard : Claim7 := { stood := { row := fnExactNearestToneRow, standIns := [], harness := (true, "25fd1fef52612cd1ec7b7ab0fdbf2fdfa9b1bc82c46d73e91bbd7916033deaf5"), looks := false }, kinds := [], alts := [], laidByText := true, laidKinds := [.data], laidTests := true, laidLooks := .later }
def FnExactNearestToneCardSaid : Prop := Claim7.holds Tryd.pinned (.plain (OpenSpec.ofChange fnExactNearestToneSpec)) fnExactNearestToneCard

/-- THE TIED CARD OF 'laws.FnExactEqualErrors'. -/
def fnExactEqualErrorsCard : Claim7 := { stood := { row := fnExactEqualErrorsRow, standIns := [], harness := (true, "25fd1fef52612cd1ec7b7ab0fdbf2fdfa9b1bc82c46d73e91bbd7916033deaf5"), looks := false }, kinds := [], alts := [], laidByText := true, laidKinds := [.data], laidTests := true, laidLooks := .later }
def FnExactEqualErrorsCardSaid : Prop := Claim7.holds Tryd.pinned (.plain (OpenSpec.ofChange fnExactEqualErrorsSpec)) fnExactEqualErrorsCard

/-- THE TIED CARD OF 'laws.FnExactTuningText'. -/
def fnExactTuningTextCard : Claim7 := { stood := { row := fnExactTuningTextRow, standIns := [], harness := (true, "25fd1fef52612cd1ec7b7ab0fdbf2fdfa9b1bc82c46d73e91bbd7916033deaf5"), looks := false }, kinds := [], alts := [], laidByText := true, laidKinds := [.data, .data, .data], laidTests := true, laidLooks := .later }
def FnExactTuningTextCardSaid : Prop := Claim7.holds Tryd.pinned (.plain (OpenSpec.ofChange fnExactTuningTextSpec)) fnExactTuningTextCard

/-- THE SECOND FORM's CARD OF 'laws.FnExactWorstFifth'. -/
def fnExactWorstFifthUptoCard : Claim7 := { stood := { row := fnExactWorstFifthUptoRow, standIns := [], harness := (true, "25fd1fef52612cd1ec7b7ab0fdbf2fdfa9b1bc82c46d73e91bbd7916033deaf5"), looks := false }, kinds := [], alts := [], laidByText := true, laidKinds := [.data], laidTests := true, laidLooks := .later }
def FnExactWorstFifthUptoCardSaid : Prop := Claim7.holds Tryd.pinned (.plain (OpenSpec.upto fnExactWorstFifthSpec)) fnExactWorstFifthUptoCard

/-- THE SECOND FORM's CARD OF 'laws.FnExactPitchCents'. -/
def fnExactPitchCentsUptoCard : Claim7 := { stood := { row := fnExactPitchCentsUptoRow, standIns := [], harness := (true, "25fd1fef52612cd1ec7b7ab0fdbf2fdfa9b1bc82c46d73e91bbd7916033deaf5"), looks := false }, kinds := [], alts := [], laidByText := true, laidKinds := [.data], laidTests := true, laidLooks := .later }
def FnExactPitchCentsUptoCardSaid : Prop := Claim7.holds Tryd.pinned (.plain (OpenSpec.upto fnExactPitchCentsSpec)) fnExactPitchCentsUptoCard

/-- THE SECOND FORM's CARD OF 'laws.FnExactNearestTone'. -/
def fnExactNearestToneUptoCard : Claim7 := { stood := { row := fnExactNearestToneUptoRow, standIns := [], harness := (true, "25fd1fef52612cd1ec7b7ab0fdbf2fdfa9b1bc82c46d73e91bbd7916033deaf5"), looks := false }, kinds := [], alts := [], laidByText := true, laidKinds := [.data], laidTests := true, laidLooks := .later }
def FnExactNearestToneUptoCardSaid : Prop := Claim7.holds Tryd.pinned (.plain (OpenSpec.upto fnExactNearestToneSpec)) fnExactNearestToneUptoCard

/-- THE SECOND FORM's CARD OF 'laws.FnExactEqualErrors'. -/
def fnExactEqualErrorsUptoCard : Claim7 := { stood := { row := fnExactEqualErrorsUptoRow, standIns := [], harness := (true, "25fd1fef52612cd1ec7b7ab0fdbf2fdfa9b1bc82c46d73e91bbd7916033deaf5"), looks := false }, kinds := [], alts := [], laidByText := true, laidKinds := [.data], laidTests := true, laidLooks := .later }
def FnExactEqualErrorsUptoCardSaid : Prop := Claim7.holds Tryd.pinned (.plain (OpenSpec.upto fnExactEqualErrorsSpec)) fnExactEqualErrorsUptoCard

/-- THE SECOND FORM's CARD OF 'laws.FnExactTuningText'. -/
def fnExactTuningTextUptoCard : Claim7 := { stood := { row := fnExactTuningTextUptoRow, standIns := [], harness := (true, "25fd1fef52612cd1ec7b7ab0fdbf2fdfa9b1bc82c46d73e91bbd7916033deaf5"), looks := false }, kinds := [], alts := [], laidByText := true, laidKinds := [.data, .data, .data], laidTests := true, laidLooks := .later }
def FnExactTuningTextUptoCardSaid : Prop := Claim7.holds Tryd.pinned (.plain (OpenSpec.upto fnExactTuningTextSpec)) fnExactTuningTextUptoCard
end Rows
end Go.Proofs.YtigjcobannhdlaaDoor
