/-
  DERIVED. GIVEN WITH THE SEED: THE CARDS: each row of YtojmkelgbcnfmaaDoorRows.lean that lists a variable, with what it lists TIED to the program's text (the seventh form; the later family's looks); each row that meets fmt, with fmt's text TOLD by the authors' own Lean function (tested against real Go, not proved from fmt's source: count such statements apart). THE CARD IS WHAT COUNTS. Prove the row's statement (the work); the ties are given (YtojmkelgbcnfmaaDoorTie.lean); close each card by the builder's one call (the guide's Derived/Test/ToyasCard.lean, 'card_holds'). Laid BY PROGRAM, IN A SANDBOX (cutbox-door.mjs). By AI agents, Wed Nov 11 2026. No macro, syntax, notation, axiom, sorry.
-/
import Derived.Test.YtojmkelgbcnfmaaDoorRows
import GoSem.ClaimSeven
namespace Go.Proofs.YtojmkelgbcnfmaaDoor
namespace Rows

/-- THE TIED CARD OF 'laws.FnExactCentsOf'. -/
def fnExactCentsOfCard : Claim7 := { stood := { row := fnExactCentsOfRow, standIns := [], harness := (true, "ae27bb785348b8c1c822c38a54817683ad692e45f2f373f8e8cc6c6dd2770bd6"), looks := false }, kinds := [], alts := [], laidByText := true, laidKinds := [.data], laidTests := true, laidLooks := .later }
def FnExactCentsOfCardSaid : Prop := Claim7.holds Tryd.pinned (.plain (OpenSpec.ofChange fnExactCentsOfSpec)) fnExactCentsOfCard

/-- THE TIED CARD OF 'laws.FnExactBestRatio'. -/
def fnExactBestRatioCard : Claim7 := { stood := { row := fnExactBestRatioRow, standIns := [], harness := (true, "ae27bb785348b8c1c822c38a54817683ad692e45f2f373f8e8cc6c6dd2770bd6"), looks := false }, kinds := [], alts := [], laidByText := true, laidKinds := [.data], laidTests := true, laidLooks := .later }
def FnExactBestRatioCardSaid : Prop := Claim7.holds Tryd.pinned (.plain (OpenSpec.ofChange fnExactBestRatioSpec)) fnExactBestRatioCard

/-- THE TIED CARD OF 'laws.FnExactRatioText'. -/
def fnExactRatioTextCard : Claim7 := { stood := { row := fnExactRatioTextRow, standIns := [], harness := (true, "ae27bb785348b8c1c822c38a54817683ad692e45f2f373f8e8cc6c6dd2770bd6"), looks := false }, kinds := [], alts := [], laidByText := true, laidKinds := [.data, .data, .data], laidTests := true, laidLooks := .later }
def FnExactRatioTextCardSaid : Prop := Claim7.holds Tryd.pinned (.plain (OpenSpec.ofChange fnExactRatioTextSpec)) fnExactRatioTextCard

/-- THE SECOND FORM's CARD OF 'laws.FnExactCentsOf'. -/
def fnExactCentsOfUptoCard : Claim7 := { stood := { row := fnExactCentsOfUptoRow, standIns := [], harness := (true, "ae27bb785348b8c1c822c38a54817683ad692e45f2f373f8e8cc6c6dd2770bd6"), looks := false }, kinds := [], alts := [], laidByText := true, laidKinds := [.data], laidTests := true, laidLooks := .later }
def FnExactCentsOfUptoCardSaid : Prop := Claim7.holds Tryd.pinned (.plain (OpenSpec.upto fnExactCentsOfSpec)) fnExactCentsOfUptoCard

/-- THE SECOND FORM's CARD OF 'laws.FnExactBestRatio'. -/
def fnExactBestRatioUptoCard : Claim7 := { stood := { row := fnExactBestRatioUptoRow, standIns := [], harness := (true, "ae27bb785348b8c1c822c38a54817683ad692e45f2f373f8e8cc6c6dd2770bd6"), looks := false }, kinds := [], alts := [], laidByText := true, laidKinds := [.data], laidTests := true, laidLooks := .later }
def FnExactBestRatioUptoCardSaid : Prop := Claim7.holds Tryd.pinned (.plain (OpenSpec.upto fnExactBestRatioSpec)) fnExactBestRatioUptoCard

/-- THE SECOND FORM's CARD OF 'laws.FnExactRatioText'. -/
def fnExactRatioTextUptoCard : Claim7 := { stood := { row := fnExactRatioTextUptoRow, standIns := [], harness := (true, "ae27bb785348b8c1c822c38a54817683ad692e45f2f373f8e8cc6c6dd2770bd6"), looks := false }, kinds := [], alts := [], laidByText := true, laidKinds := [.data, .data, .data], laidTests := true, laidLooks := .later }
def FnExactRatioTextUptoCardSaid : Prop := Claim7.holds Tryd.pinned (.plain (OpenSpec.upto fnExactRatioTextSpec)) fnExactRatioTextUptoCard
end Rows
end Go.Proofs.YtojmkelgbcnfmaaDoor
