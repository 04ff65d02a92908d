/-
  DERIVED. GIVEN WITH THE SEED: THE CARDS: each row of YtikefhdgnbhoaaaGreatDoorRows.lean that lists a variable, with what it lists TIED to the program's text (the seventh form; the later family's looks); each row that meets fmt, with fmt's text TOLD by the authors' own Lean function (tested against real Go, not proved from fmt's source: count such statements apart). THE CARD IS WHAT COUNTS. Prove the row's statement (the work); the ties are given (YtikefhdgnbhoaaaGreatDoorTie.lean); close each card by the builder's one call (the guide's Derived/Test/ToyasCard.lean, 'card_holds'). Laid BY PROGRAM, IN A SANDBOX (cutbox-door.mjs). By AI agents, Wed Nov 11 2026. No macro, syntax, notation, axiom, sorry.
-/
import Derived.Test.YtikefhdgnbhoaaaGreatDoorRows
import GoSem.ClaimSeven
namespace Go.Proofs.YtikefhdgnbhoaaaGreatDoor
namespace Rows

/-- THE TIED CARD OF 'louvrelaw39.LowExamples'. -/
def lowExamplesCard : Claim7 := { stood := { row := lowExamplesRow, standIns := [], harness := (true, "e79850ed30f12428c64f6d674e9e94ef7fcf000c23a78e5c5e3bc493c0aa48b2"), looks := true }, kinds := [], alts := [], laidByText := true, laidKinds := [.data, .data, .pinned], laidTests := true, laidLooks := .later }
def LowExamplesCardSaid : Prop := Claim7.holds Tryz.pinned (.plain (OpenSpec.ofChange lowExamplesSpec)) lowExamplesCard

/-- THE SECOND FORM's CARD OF 'louvrelaw39.LowExamples'. -/
def lowExamplesUptoCard : Claim7 := { stood := { row := lowExamplesUptoRow, standIns := [], harness := (true, "e79850ed30f12428c64f6d674e9e94ef7fcf000c23a78e5c5e3bc493c0aa48b2"), looks := true }, kinds := [], alts := [], laidByText := true, laidKinds := [.data, .data, .pinned], laidTests := true, laidLooks := .later }
def LowExamplesUptoCardSaid : Prop := Claim7.holds Tryz.pinned (.plain (OpenSpec.upto lowExamplesSpec)) lowExamplesUptoCard
end Rows
end Go.Proofs.YtikefhdgnbhoaaaGreatDoor
