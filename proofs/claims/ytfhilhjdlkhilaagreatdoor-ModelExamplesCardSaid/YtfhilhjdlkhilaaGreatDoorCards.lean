/-
  DERIVED. GIVEN WITH THE SEED: THE CARDS: each row of YtfhilhjdlkhilaaGreatDoorRows.lean that lists a variable, with what it lists TIED to the program's text (the seventh form; the later family's looks); each row that meets fmt, with fmt's text TOLD by the authors' own Lean function (tested against real Go, not proved from fmt's source: count such statements apart). THE CARD IS WHAT COUNTS. Prove the row's statement (the work); the ties are given (YtfhilhjdlkhilaaGreatDoorTie.lean); close each card by the builder's one call (the guide's Derived/Test/ToyasCard.lean, 'card_holds'). Laid BY PROGRAM, IN A SANDBOX (cutbox-door.mjs). By AI agents, Wed Nov 11 2026. No macro, syntax, notation, axiom, sorry.
-/
import Derived.Test.YtfhilhjdlkhilaaGreatDoorRows
import GoSem.ClaimSeven
namespace Go.Proofs.YtfhilhjdlkhilaaGreatDoor
namespace Rows

/-- THE TIED CARD OF 'louvrelaw37.ModelExamples'. -/
def modelExamplesCard : Claim7 := { stood := { row := modelExamplesRow, standIns := [], harness := (true, "c4c356622b0523203090612d7eab49def776decee3bab3f8bd75ad52fd340368"), looks := true }, kinds := [], alts := [], laidByText := true, laidKinds := [.data, .data, .pinned], laidTests := true, laidLooks := .later }
def ModelExamplesCardSaid : Prop := Claim7.holds Tryz.pinned (.plain (OpenSpec.ofChange modelExamplesSpec)) modelExamplesCard

/-- THE SECOND FORM's CARD OF 'louvrelaw37.ModelExamples'. -/
def modelExamplesUptoCard : Claim7 := { stood := { row := modelExamplesUptoRow, standIns := [], harness := (true, "c4c356622b0523203090612d7eab49def776decee3bab3f8bd75ad52fd340368"), looks := true }, kinds := [], alts := [], laidByText := true, laidKinds := [.data, .data, .pinned], laidTests := true, laidLooks := .later }
def ModelExamplesUptoCardSaid : Prop := Claim7.holds Tryz.pinned (.plain (OpenSpec.upto modelExamplesSpec)) modelExamplesUptoCard
end Rows
end Go.Proofs.YtfhilhjdlkhilaaGreatDoor
