/-
  DERIVED. GIVEN WITH THE SEED: THE CARDS: each row of YtpmphmpaeooeeaaDoorRows.lean that lists a variable, with what it lists TIED to the program's text (the seventh form; the later family's looks); each row that meets fmt, with fmt's text TOLD by the authors' own Lean function (tested against real Go, not proved from fmt's source: count such statements apart). THE CARD IS WHAT COUNTS. Prove the row's statement (the work); the ties are given (YtpmphmpaeooeeaaDoorTie.lean); close each card by the builder's one call (the guide's Derived/Test/ToyasCard.lean, 'card_holds'). Laid BY PROGRAM, IN A SANDBOX (cutbox-door.mjs). By AI agents, Wed Nov 11 2026. No macro, syntax, notation, axiom, sorry.
-/
import Derived.Test.YtpmphmpaeooeeaaDoorRows
import GoSem.ClaimSeven
namespace Go.Proofs.YtpmphmpaeooeeaaDoor
namespace Rows

/-- THE TIED CARD OF 'laws.FnExactRecordPut'. -/
def fnExactRecordPutCard : Claim7 := { stood := { row := fnExactRecordPutRow, standIns := [], harness := (true, "3b0a43786c15fe747d3b1d31660df2bbdca4568fa8eeea1288271b7ffd3fe40a"), looks := true }, kinds := [], alts := [], laidByText := true, laidKinds := [.data, .data, .data], laidTests := true, laidLooks := .later }
def FnExactRecordPutCardSaid : Prop := Claim7.holds Tryd.pinned (.plain (OpenSpec.ofChange fnExactRecordPutSpec)) fnExactRecordPutCard

/-- THE TIED CARD OF 'laws.FnOrderText'. -/
def fnOrderTextCard : Claim7 := { stood := { row := fnOrderTextRow, standIns := [], harness := (true, "3b0a43786c15fe747d3b1d31660df2bbdca4568fa8eeea1288271b7ffd3fe40a"), looks := true }, kinds := [], alts := [], laidByText := true, laidKinds := [.data, .data, .data], laidTests := true, laidLooks := .later }
def FnOrderTextCardSaid : Prop := Claim7.holds Tryd.pinned (.plain (OpenSpec.ofChange fnOrderTextSpec)) fnOrderTextCard

/-- THE TIED CARD OF 'laws.FnExactRecordGet'. -/
def fnExactRecordGetCard : Claim7 := { stood := { row := fnExactRecordGetRow, standIns := [], harness := (true, "3b0a43786c15fe747d3b1d31660df2bbdca4568fa8eeea1288271b7ffd3fe40a"), looks := true }, kinds := [], alts := [], laidByText := true, laidKinds := [.data, .data, .data, .sentinel, .sentinel], laidTests := true, laidLooks := .later }
def FnExactRecordGetCardSaid : Prop := Claim7.holds Tryd.pinned (.plain (OpenSpec.ofChange fnExactRecordGetSpec)) fnExactRecordGetCard

/-- THE TIED CARD OF 'laws.FnExactOrders'. -/
def fnExactOrdersCard : Claim7 := { stood := { row := fnExactOrdersRow, standIns := [], harness := (true, "3b0a43786c15fe747d3b1d31660df2bbdca4568fa8eeea1288271b7ffd3fe40a"), looks := true }, kinds := [], alts := [], laidByText := true, laidKinds := [.data, .data, .data], laidTests := true, laidLooks := .later }
def FnExactOrdersCardSaid : Prop := Claim7.holds Tryd.pinned (.plain (OpenSpec.ofChange fnExactOrdersSpec)) fnExactOrdersCard

/-- THE SECOND FORM's CARD OF 'laws.FnExactRecordPut'. -/
def fnExactRecordPutUptoCard : Claim7 := { stood := { row := fnExactRecordPutUptoRow, standIns := [], harness := (true, "3b0a43786c15fe747d3b1d31660df2bbdca4568fa8eeea1288271b7ffd3fe40a"), looks := true }, kinds := [], alts := [], laidByText := true, laidKinds := [.data, .data, .data], laidTests := true, laidLooks := .later }
def FnExactRecordPutUptoCardSaid : Prop := Claim7.holds Tryd.pinned (.plain (OpenSpec.upto fnExactRecordPutSpec)) fnExactRecordPutUptoCard

/-- THE SECOND FORM's CARD OF 'laws.FnOrderText'. -/
def fnOrderTextUptoCard : Claim7 := { stood := { row := fnOrderTextUptoRow, standIns := [], harness := (true, "3b0a43786c15fe747d3b1d31660df2bbdca4568fa8eeea1288271b7ffd3fe40a"), looks := true }, kinds := [], alts := [], laidByText := true, laidKinds := [.data, .data, .data], laidTests := true, laidLooks := .later }
def FnOrderTextUptoCardSaid : Prop := Claim7.holds Tryd.pinned (.plain (OpenSpec.upto fnOrderTextSpec)) fnOrderTextUptoCard

/-- THE SECOND FORM's CARD OF 'laws.FnExactRecordGet'. -/
def fnExactRecordGetUptoCard : Claim7 := { stood := { row := fnExactRecordGetUptoRow, standIns := [], harness := (true, "3b0a43786c15fe747d3b1d31660df2bbdca4568fa8eeea1288271b7ffd3fe40a"), looks := true }, kinds := [], alts := [], laidByText := true, laidKinds := [.data, .data, .data, .sentinel, .sentinel], laidTests := true, laidLooks := .later }
def FnExactRecordGetUptoCardSaid : Prop := Claim7.holds Tryd.pinned (.plain (OpenSpec.upto fnExactRecordGetSpec)) fnExactRecordGetUptoCard

/-- THE SECOND FORM's CARD OF 'laws.FnExactOrders'. -/
def fnExactOrdersUptoCard : Claim7 := { stood := { row := fnExactOrdersUptoRow, standIns := [], harness := (true, "3b0a43786c15fe747d3b1d31660df2bbdca4568fa8eeea1288271b7ffd3fe40a"), looks := true }, kinds := [], alts := [], laidByText := true, laidKinds := [.data, .data, .data], laidTests := true, laidLooks := .later }
def FnExactOrdersUptoCardSaid : Prop := Claim7.holds Tryd.pinned (.plain (OpenSpec.upto fnExactOrdersSpec)) fnExactOrdersUptoCard
end Rows
end Go.Proofs.YtpmphmpaeooeeaaDoor
