/-
  DERIVED. GIVEN WITH THE SEED: THE CARDS: each row of YtjdmiodinhlchaaDoorRows.lean that lists a variable, with what it lists TIED to the program's text (the seventh form; the later family's looks); each row that meets fmt, with fmt's text TOLD by the authors' own Lean function (tested against real Go, not proved from fmt's source: count such statements apart). THE CARD IS WHAT COUNTS. Prove the row's statement (the work); the ties are given (YtjdmiodinhlchaaDoorTie.lean); close each card by the builder's one call (the guide's Derived/Test/ToyasCard.lean, 'card_holds'). Laid BY PROGRAM, IN A SANDBOX (cutbox-door.mjs). By AI agents, Wed Nov 11 2026. No macro, syntax, notation, axiom, sorry.
-/
import Derived.Test.YtjdmiodinhlchaaDoorRows
import GoSem.ClaimSeven
namespace Go.Proofs.YtjdmiodinhlchaaDoor
namespace Rows

/-- THE TIED CARD OF 'laws.FnExactFileOf'. -/
def fnExactFileOfCard : Claim7 := { stood := { row := fnExactFileOfRow, standIns := [], harness := (true, "9e1aeb29921f2197fb958a3d45f064e384e6dc2daed6863414662c74f8a182dd"), looks := false }, kinds := [], alts := [], laidByText := true, laidKinds := [.data, .data, .data], laidTests := true, laidLooks := .later }
def FnExactFileOfCardSaid : Prop := Claim7.holds Tryd.pinned (.plain (OpenSpec.ofChange fnExactFileOfSpec)) fnExactFileOfCard

/-- THE SECOND FORM's CARD OF 'laws.FnExactFileOf'. -/
def fnExactFileOfUptoCard : Claim7 := { stood := { row := fnExactFileOfUptoRow, standIns := [], harness := (true, "9e1aeb29921f2197fb958a3d45f064e384e6dc2daed6863414662c74f8a182dd"), looks := false }, kinds := [], alts := [], laidByText := true, laidKinds := [.data, .data, .data], laidTests := true, laidLooks := .later }
def FnExactFileOfUptoCardSaid : Prop := Claim7.holds Tryd.pinned (.plain (OpenSpec.upto fnExactFileOfSpec)) fnExactFileOfUptoCard
end Rows
end Go.Proofs.YtjdmiodinhlchaaDoor
