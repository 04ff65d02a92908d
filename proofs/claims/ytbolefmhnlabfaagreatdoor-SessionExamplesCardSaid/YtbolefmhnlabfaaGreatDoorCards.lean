/-
  DERIVED. GIVEN WITH THE SEED: THE CARDS: each row of YtbolefmhnlabfaaGreatDoorRows.lean that lists a variable, with what it lists TIED to the program's text (the seventh form; the later family's looks); each row that meets fmt, with fmt's text TOLD by the authors' own Lean function (tested against real Go, not proved from fmt's source: count such statements apart). THE CARD IS WHAT COUNTS. Prove the row's statement (the work); the ties are given (YtbolefmhnlabfaaGreatDoorTie.lean); close each card by the builder's one call (the guide's Derived/Test/ToyasCard.lean, 'card_holds'). Laid BY PROGRAM, IN A SANDBOX (cutbox-door.mjs). By AI agents, Wed Nov 11 2026. No macro, syntax, notation, axiom, sorry.
-/
import Derived.Test.YtbolefmhnlabfaaGreatDoorRows
import GoSem.ClaimSeven
namespace Go.Proofs.YtbolefmhnlabfaaGreatDoor
namespace Rows

/-- THE TIED CARD OF 'louvrelaw38.SessionExamples'. -/
def sessionExamplesCard : Claim7 := { stood := { row := sessionExamplesRow, standIns := [], harness := (true, "c27cded2ec2adf7459073fdab34b1dca1f357491bfe854b0d085dc7cfd4d1dc5"), looks := true }, kinds := [], alts := [], laidByText := true, laidKinds := [.data, .data, .pinned], laidTests := true, laidLooks := .later }
def SessionExamplesCardSaid : Prop := Claim7.holds Tryz.pinned (.plain (OpenSpec.ofChange sessionExamplesSpec)) sessionExamplesCard

/-- THE SECOND FORM's CARD OF 'louvrelaw38.SessionExamples'. -/
def sessionExamplesUptoCard : Claim7 := { stood := { row := sessionExamplesUptoRow, standIns := [], harness := (true, "c27cded2ec2adf7459073fdab34b1dca1f357491bfe854b0d085dc7cfd4d1dc5"), looks := true }, kinds := [], alts := [], laidByText := true, laidKinds := [.data, .data, .pinned], laidTests := true, laidLooks := .later }
def SessionExamplesUptoCardSaid : Prop := Claim7.holds Tryz.pinned (.plain (OpenSpec.upto sessionExamplesSpec)) sessionExamplesUptoCard
end Rows
end Go.Proofs.YtbolefmhnlabfaaGreatDoor
