/-
  DERIVED. GIVEN WITH THE SEED: THE CARDS: each row of YtamcgggmfghljaaGreatDoorRows.lean that lists a variable, with what it lists TIED to the program's text (the seventh form; the later family's looks); each row that meets fmt, with fmt's text TOLD by the authors' own Lean function (tested against real Go, not proved from fmt's source: count such statements apart). THE CARD IS WHAT COUNTS. Prove the row's statement (the work); the ties are given (YtamcgggmfghljaaGreatDoorTie.lean); close each card by the builder's one call (the guide's Derived/Test/ToyasCard.lean, 'card_holds'). Laid BY PROGRAM, IN A SANDBOX (cutbox-door.mjs). By AI agents, Wed Nov 11 2026. No macro, syntax, notation, axiom, sorry.
-/
import Derived.Test.YtamcgggmfghljaaGreatDoorRows
import GoSem.ClaimSeven
namespace Go.Proofs.YtamcgggmfghljaaGreatDoor
namespace Rows

/-- THE TIED CARD OF 'louvrelaw41.ScriptChecks'. -/
def scriptChecksCard : Claim7 := { stood := { row := scriptChecksRow, standIns := [], harness := (true, "650fd373dd796b3241703cddc85d3d12cf87f3d20afb4e3c54e341f1932e636d"), looks := true }, kinds := [], alts := [], laidByText := true, laidKinds := [.data, .data, .data, .data], laidTests := true, laidLooks := .later }
def ScriptChecksCardSaid : Prop := Claim7.holds Tryz.pinned (.plain (OpenSpec.ofChange scriptChecksSpec)) scriptChecksCard

/-- THE TIED CARD OF 'louvrelaw41.ScriptReads'. -/
def scriptReadsCard : Claim7 := { stood := { row := scriptReadsRow, standIns := [], harness := (true, "650fd373dd796b3241703cddc85d3d12cf87f3d20afb4e3c54e341f1932e636d"), looks := true }, kinds := [], alts := [], laidByText := true, laidKinds := [.data, .data, .data, .data], laidTests := true, laidLooks := .later }
def ScriptReadsCardSaid : Prop := Claim7.holds Tryz.pinned (.plain (OpenSpec.ofChange scriptReadsSpec)) scriptReadsCard

/-- THE TIED CARD OF 'louvrelaw41.ScriptEquals'. -/
def scriptEqualsCard : Claim7 := { stood := { row := scriptEqualsRow, standIns := [], harness := (true, "650fd373dd796b3241703cddc85d3d12cf87f3d20afb4e3c54e341f1932e636d"), looks := true }, kinds := [], alts := [], laidByText := true, laidKinds := [.data, .data, .data, .data], laidTests := true, laidLooks := .later }
def ScriptEqualsCardSaid : Prop := Claim7.holds Tryz.pinned (.plain (OpenSpec.ofChange scriptEqualsSpec)) scriptEqualsCard

/-- THE TIED CARD OF 'louvrelaw41.ScriptAny'. -/
def scriptAnyCard : Claim7 := { stood := { row := scriptAnyRow, standIns := [], harness := (true, "650fd373dd796b3241703cddc85d3d12cf87f3d20afb4e3c54e341f1932e636d"), looks := true }, kinds := [], alts := [], laidByText := true, laidKinds := [.data, .data, .data, .data], laidTests := true, laidLooks := .later }
def ScriptAnyCardSaid : Prop := Claim7.holds Tryz.pinned (.plain (OpenSpec.ofChange scriptAnySpec)) scriptAnyCard

/-- THE TIED CARD OF 'louvrelaw41.ScriptDecodes'. -/
def scriptDecodesCard : Claim7 := { stood := { row := scriptDecodesRow, standIns := [], harness := (true, "650fd373dd796b3241703cddc85d3d12cf87f3d20afb4e3c54e341f1932e636d"), looks := true }, kinds := [], alts := [], laidByText := true, laidKinds := [.data, .data, .data, .data], laidTests := true, laidLooks := .later }
def ScriptDecodesCardSaid : Prop := Claim7.holds Tryz.pinned (.plain (OpenSpec.ofChange scriptDecodesSpec)) scriptDecodesCard

/-- THE TIED CARD OF 'louvrelaw41.ScriptBack'. -/
def scriptBackCard : Claim7 := { stood := { row := scriptBackRow, standIns := [], harness := (true, "650fd373dd796b3241703cddc85d3d12cf87f3d20afb4e3c54e341f1932e636d"), looks := true }, kinds := [], alts := [], laidByText := true, laidKinds := [.data, .data, .data, .data], laidTests := true, laidLooks := .later }
def ScriptBackCardSaid : Prop := Claim7.holds Tryz.pinned (.plain (OpenSpec.ofChange scriptBackSpec)) scriptBackCard

/-- THE SECOND FORM's CARD OF 'louvrelaw41.ScriptChecks'. -/
def scriptChecksUptoCard : Claim7 := { stood := { row := scriptChecksUptoRow, standIns := [], harness := (true, "650fd373dd796b3241703cddc85d3d12cf87f3d20afb4e3c54e341f1932e636d"), looks := true }, kinds := [], alts := [], laidByText := true, laidKinds := [.data, .data, .data, .data], laidTests := true, laidLooks := .later }
def ScriptChecksUptoCardSaid : Prop := Claim7.holds Tryz.pinned (.plain (OpenSpec.upto scriptChecksSpec)) scriptChecksUptoCard

/-- THE SECOND FORM's CARD OF 'louvrelaw41.ScriptReads'. -/
def scriptReadsUptoCard : Claim7 := { stood := { row := scriptReadsUptoRow, standIns := [], harness := (true, "650fd373dd796b3241703cddc85d3d12cf87f3d20afb4e3c54e341f1932e636d"), looks := true }, kinds := [], alts := [], laidByText := true, laidKinds := [.data, .data, .data, .data], laidTests := true, laidLooks := .later }
def ScriptReadsUptoCardSaid : Prop := Claim7.holds Tryz.pinned (.plain (OpenSpec.upto scriptReadsSpec)) scriptReadsUptoCard

/-- THE SECOND FORM's CARD OF 'louvrelaw41.ScriptEquals'. -/
def scriptEqualsUptoCard : Claim7 := { stood := { row := scriptEqualsUptoRow, standIns := [], harness := (true, "650fd373dd796b3241703cddc85d3d12cf87f3d20afb4e3c54e341f1932e636d"), looks := true }, kinds := [], alts := [], laidByText := true, laidKinds := [.data, .data, .data, .data], laidTests := true, laidLooks := .later }
def ScriptEqualsUptoCardSaid : Prop := Claim7.holds Tryz.pinned (.plain (OpenSpec.upto scriptEqualsSpec)) scriptEqualsUptoCard

/-- THE SECOND FORM's CARD OF 'louvrelaw41.ScriptAny'. -/
def scriptAnyUptoCard : Claim7 := { stood := { row := scriptAnyUptoRow, standIns := [], harness := (true, "650fd373dd796b3241703cddc85d3d12cf87f3d20afb4e3c54e341f1932e636d"), looks := true }, kinds := [], alts := [], laidByText := true, laidKinds := [.data, .data, .data, .data], laidTests := true, laidLooks := .later }
def ScriptAnyUptoCardSaid : Prop := Claim7.holds Tryz.pinned (.plain (OpenSpec.upto scriptAnySpec)) scriptAnyUptoCard

/-- THE SECOND FORM's CARD OF 'louvrelaw41.ScriptDecodes'. -/
def scriptDecodesUptoCard : Claim7 := { stood := { row := scriptDecodesUptoRow, standIns := [], harness := (true, "650fd373dd796b3241703cddc85d3d12cf87f3d20afb4e3c54e341f1932e636d"), looks := true }, kinds := [], alts := [], laidByText := true, laidKinds := [.data, .data, .data, .data], laidTests := true, laidLooks := .later }
def ScriptDecodesUptoCardSaid : Prop := Claim7.holds Tryz.pinned (.plain (OpenSpec.upto scriptDecodesSpec)) scriptDecodesUptoCard

/-- THE SECOND FORM's CARD OF 'louvrelaw41.ScriptBack'. -/
def scriptBackUptoCard : Claim7 := { stood := { row := scriptBackUptoRow, standIns := [], harness := (true, "650fd373dd796b3241703cddc85d3d12cf87f3d20afb4e3c54e341f1932e636d"), looks := true }, kinds := [], alts := [], laidByText := true, laidKinds := [.data, .data, .data, .data], laidTests := true, laidLooks := .later }
def ScriptBackUptoCardSaid : Prop := Claim7.holds Tryz.pinned (.plain (OpenSpec.upto scriptBackSpec)) scriptBackUptoCard
end Rows
end Go.Proofs.YtamcgggmfghljaaGreatDoor
