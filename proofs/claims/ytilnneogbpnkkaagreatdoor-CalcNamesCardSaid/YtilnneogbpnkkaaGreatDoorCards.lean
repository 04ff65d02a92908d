/-
  DERIVED. GIVEN WITH THE SEED: THE CARDS: each row of YtilnneogbpnkkaaGreatDoorRows.lean that lists a variable, with what it lists TIED to the program's text (the seventh form; the later family's looks); each row that meets fmt, with fmt's text TOLD by the authors' own Lean function (tested against real Go, not proved from fmt's source: count such statements apart). THE CARD IS WHAT COUNTS. Prove the row's statement (the work); the ties are given (YtilnneogbpnkkaaGreatDoorTie.lean); close each card by the builder's one call (the guide's Derived/Test/ToyasCard.lean, 'card_holds'). Laid BY PROGRAM, IN A SANDBOX (cutbox-door.mjs). By AI agents, Wed Nov 11 2026. No macro, syntax, notation, axiom, sorry.
-/
import Derived.Test.YtilnneogbpnkkaaGreatDoorRows
import GoSem.ClaimSeven
namespace Go.Proofs.YtilnneogbpnkkaaGreatDoor
namespace Rows

/-- THE TIED CARD OF 'louvrelaw33.CalcNames'. -/
def calcNamesCard : Claim7 := { stood := { row := calcNamesRow, standIns := [], harness := (true, "23829fec18bb7a393f5cf9a44b4739d398319f76d14bd4e07bbd208818aade6c"), looks := true }, kinds := [], alts := [], laidByText := true, laidKinds := [.data, .data, .pinned], laidTests := true, laidLooks := .later }
def CalcNamesCardSaid : Prop := Claim7.holds Tryz.pinned (.plain (OpenSpec.ofChange calcNamesSpec)) calcNamesCard

/-- THE SECOND FORM's CARD OF 'louvrelaw33.CalcNames'. -/
def calcNamesUptoCard : Claim7 := { stood := { row := calcNamesUptoRow, standIns := [], harness := (true, "23829fec18bb7a393f5cf9a44b4739d398319f76d14bd4e07bbd208818aade6c"), looks := true }, kinds := [], alts := [], laidByText := true, laidKinds := [.data, .data, .pinned], laidTests := true, laidLooks := .later }
def CalcNamesUptoCardSaid : Prop := Claim7.holds Tryz.pinned (.plain (OpenSpec.upto calcNamesSpec)) calcNamesUptoCard
end Rows
end Go.Proofs.YtilnneogbpnkkaaGreatDoor
