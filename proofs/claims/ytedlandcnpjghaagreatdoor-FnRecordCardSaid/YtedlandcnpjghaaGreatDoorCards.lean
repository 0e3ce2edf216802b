/-
  DERIVED. GIVEN WITH THE SEED: THE CARDS: each row of YtedlandcnpjghaaGreatDoorRows.lean that lists a variable, with what it lists TIED to the program's text (the seventh form; the later family's looks); each row that meets fmt, with fmt's text TOLD by the authors' own Lean function (tested against real Go, not proved from fmt's source: count such statements apart). THE CARD IS WHAT COUNTS. Prove the row's statement (the work); the ties are given (YtedlandcnpjghaaGreatDoorTie.lean); close each card by the builder's one call (the guide's Derived/Test/ToyasCard.lean, 'card_holds'). Laid BY PROGRAM, IN A SANDBOX (cutbox-door.mjs). By AI agents, Wed Nov 11 2026. No macro, syntax, notation, axiom, sorry.
-/
import Derived.Test.YtedlandcnpjghaaGreatDoorRows
import GoSem.ClaimSeven
namespace Go.Proofs.YtedlandcnpjghaaGreatDoor
namespace Rows

/-- THE TIED CARD OF 'laws.FnRecord'. -/
def fnRecordCard : Claim7 := { stood := { row := fnRecordRow, standIns := [], harness := (true, "1310e1236459097d89319a66a4c86dae64b275f7e28074e6522c894e4c37c105"), looks := true }, kinds := [], alts := [], laidByText := true, laidKinds := [.data, .data, .data, .sentinel, .sentinel], laidTests := true, laidLooks := .later }
def FnRecordCardSaid : Prop := Claim7.holds Tryz.pinned (.plain (OpenSpec.ofChange fnRecordSpec)) fnRecordCard

/-- THE SECOND FORM's CARD OF 'laws.FnRecord'. -/
def fnRecordUptoCard : Claim7 := { stood := { row := fnRecordUptoRow, standIns := [], harness := (true, "1310e1236459097d89319a66a4c86dae64b275f7e28074e6522c894e4c37c105"), looks := true }, kinds := [], alts := [], laidByText := true, laidKinds := [.data, .data, .data, .sentinel, .sentinel], laidTests := true, laidLooks := .later }
def FnRecordUptoCardSaid : Prop := Claim7.holds Tryz.pinned (.plain (OpenSpec.upto fnRecordSpec)) fnRecordUptoCard
end Rows
end Go.Proofs.YtedlandcnpjghaaGreatDoor
