/-
  DERIVED. GIVEN WITH THE SEED: THE CARDS: each row of YtpajcoanfkeibaaGreatDoorRows.lean that lists a variable, with what it lists TIED to the program's text (the seventh form; the later family's looks); each row that meets fmt, with fmt's text TOLD by the authors' own Lean function (tested against real Go, not proved from fmt's source: count such statements apart). THE CARD IS WHAT COUNTS. Prove the row's statement (the work); the ties are given (YtpajcoanfkeibaaGreatDoorTie.lean); close each card by the builder's one call (the guide's Derived/Test/ToyasCard.lean, 'card_holds'). Laid BY PROGRAM, IN A SANDBOX (cutbox-door.mjs). By AI agents, Wed Nov 11 2026. No macro, syntax, notation, axiom, sorry.
-/
import Derived.Test.YtpajcoanfkeibaaGreatDoorRows
import GoSem.ClaimSeven
namespace Go.Proofs.YtpajcoanfkeibaaGreatDoor
namespace Rows

/-- THE TIED CARD OF 'laws.FnDoKind'. -/
def fnDoKindCard : Claim7 := { stood := { row := fnDoKindRow, standIns := [], harness := (true, "ccd4f7d13cc74f0b635ce4524fc11da4dbf98884c12d92856f9d66a156797963"), looks := true }, kinds := [], alts := [], laidByText := true, laidKinds := [.data, .data, .data, .sentinel, .sentinel, .data], laidTests := true, laidLooks := .later }
def FnDoKindCardSaid : Prop := Claim7.holds Tryz.pinned (.plain (OpenSpec.ofChange fnDoKindSpec)) fnDoKindCard

/-- THE TIED CARD OF 'laws.FnDoRename'. -/
def fnDoRenameCard : Claim7 := { stood := { row := fnDoRenameRow, standIns := [], harness := (true, "ccd4f7d13cc74f0b635ce4524fc11da4dbf98884c12d92856f9d66a156797963"), looks := true }, kinds := [], alts := [], laidByText := true, laidKinds := [.data, .data, .data, .sentinel, .sentinel, .data], laidTests := true, laidLooks := .later }
def FnDoRenameCardSaid : Prop := Claim7.holds Tryz.pinned (.plain (OpenSpec.ofChange fnDoRenameSpec)) fnDoRenameCard

/-- THE TIED CARD OF 'laws.FnDoSet'. -/
def fnDoSetCard : Claim7 := { stood := { row := fnDoSetRow, standIns := [], harness := (true, "ccd4f7d13cc74f0b635ce4524fc11da4dbf98884c12d92856f9d66a156797963"), looks := true }, kinds := [], alts := [], laidByText := true, laidKinds := [.data, .data, .data, .sentinel, .sentinel, .data], laidTests := true, laidLooks := .later }
def FnDoSetCardSaid : Prop := Claim7.holds Tryz.pinned (.plain (OpenSpec.ofChange fnDoSetSpec)) fnDoSetCard

/-- THE TIED CARD OF 'laws.FnDoExpire'. -/
def fnDoExpireCard : Claim7 := { stood := { row := fnDoExpireRow, standIns := [], harness := (true, "ccd4f7d13cc74f0b635ce4524fc11da4dbf98884c12d92856f9d66a156797963"), looks := true }, kinds := [], alts := [], laidByText := true, laidKinds := [.data, .data, .data, .sentinel, .sentinel, .data], laidTests := true, laidLooks := .later }
def FnDoExpireCardSaid : Prop := Claim7.holds Tryz.pinned (.plain (OpenSpec.ofChange fnDoExpireSpec)) fnDoExpireCard

/-- THE SECOND FORM's CARD OF 'laws.FnDoKind'. -/
def fnDoKindUptoCard : Claim7 := { stood := { row := fnDoKindUptoRow, standIns := [], harness := (true, "ccd4f7d13cc74f0b635ce4524fc11da4dbf98884c12d92856f9d66a156797963"), looks := true }, kinds := [], alts := [], laidByText := true, laidKinds := [.data, .data, .data, .sentinel, .sentinel, .data], laidTests := true, laidLooks := .later }
def FnDoKindUptoCardSaid : Prop := Claim7.holds Tryz.pinned (.plain (OpenSpec.upto fnDoKindSpec)) fnDoKindUptoCard

/-- THE SECOND FORM's CARD OF 'laws.FnDoRename'. -/
def fnDoRenameUptoCard : Claim7 := { stood := { row := fnDoRenameUptoRow, standIns := [], harness := (true, "ccd4f7d13cc74f0b635ce4524fc11da4dbf98884c12d92856f9d66a156797963"), looks := true }, kinds := [], alts := [], laidByText := true, laidKinds := [.data, .data, .data, .sentinel, .sentinel, .data], laidTests := true, laidLooks := .later }
def FnDoRenameUptoCardSaid : Prop := Claim7.holds Tryz.pinned (.plain (OpenSpec.upto fnDoRenameSpec)) fnDoRenameUptoCard

/-- THE SECOND FORM's CARD OF 'laws.FnDoSet'. -/
def fnDoSetUptoCard : Claim7 := { stood := { row := fnDoSetUptoRow, standIns := [], harness := (true, "ccd4f7d13cc74f0b635ce4524fc11da4dbf98884c12d92856f9d66a156797963"), looks := true }, kinds := [], alts := [], laidByText := true, laidKinds := [.data, .data, .data, .sentinel, .sentinel, .data], laidTests := true, laidLooks := .later }
def FnDoSetUptoCardSaid : Prop := Claim7.holds Tryz.pinned (.plain (OpenSpec.upto fnDoSetSpec)) fnDoSetUptoCard

/-- THE SECOND FORM's CARD OF 'laws.FnDoExpire'. -/
def fnDoExpireUptoCard : Claim7 := { stood := { row := fnDoExpireUptoRow, standIns := [], harness := (true, "ccd4f7d13cc74f0b635ce4524fc11da4dbf98884c12d92856f9d66a156797963"), looks := true }, kinds := [], alts := [], laidByText := true, laidKinds := [.data, .data, .data, .sentinel, .sentinel, .data], laidTests := true, laidLooks := .later }
def FnDoExpireUptoCardSaid : Prop := Claim7.holds Tryz.pinned (.plain (OpenSpec.upto fnDoExpireSpec)) fnDoExpireUptoCard
end Rows
end Go.Proofs.YtpajcoanfkeibaaGreatDoor
