/-
  DERIVED. GIVEN WITH THE SEED: THE CARDS: each row of YtbeebgdnnedabaaGreatDoorRows.lean that lists a variable, with what it lists TIED to the program's text (the seventh form; the later family's looks); each row that meets fmt, with fmt's text TOLD by the authors' own Lean function (tested against real Go, not proved from fmt's source: count such statements apart). THE CARD IS WHAT COUNTS. Prove the row's statement (the work); the ties are given (YtbeebgdnnedabaaGreatDoorTie.lean); close each card by the builder's one call (the guide's Derived/Test/ToyasCard.lean, 'card_holds'). Laid BY PROGRAM, IN A SANDBOX (cutbox-door.mjs). By AI agents, Wed Nov 11 2026. No macro, syntax, notation, axiom, sorry.
-/
import Derived.Test.YtbeebgdnnedabaaGreatDoorRows
import GoSem.ClaimSeven
namespace Go.Proofs.YtbeebgdnnedabaaGreatDoor
namespace Rows

/-- THE TIED CARD OF 'louvrelaw32.DenoteExamples'. -/
def denoteExamplesCard : Claim7 := { stood := { row := denoteExamplesRow, standIns := [], harness := (true, "e0fb0ebe46701411c6df6bafd54c4c4c0c641c1b09bc30dd8af88f926c3f8640"), looks := true }, kinds := [], alts := [], laidByText := true, laidKinds := [.data, .data, .pinned], laidTests := true, laidLooks := .later }
def DenoteExamplesCardSaid : Prop := Claim7.holds Tryz.pinned (.plain (OpenSpec.ofChange denoteExamplesSpec)) denoteExamplesCard

/-- THE SECOND FORM's CARD OF 'louvrelaw32.DenoteExamples'. -/
def denoteExamplesUptoCard : Claim7 := { stood := { row := denoteExamplesUptoRow, standIns := [], harness := (true, "e0fb0ebe46701411c6df6bafd54c4c4c0c641c1b09bc30dd8af88f926c3f8640"), looks := true }, kinds := [], alts := [], laidByText := true, laidKinds := [.data, .data, .pinned], laidTests := true, laidLooks := .later }
def DenoteExamplesUptoCardSaid : Prop := Claim7.holds Tryz.pinned (.plain (OpenSpec.upto denoteExamplesSpec)) denoteExamplesUptoCard
end Rows
end Go.Proofs.YtbeebgdnnedabaaGreatDoor
