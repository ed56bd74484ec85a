/-
  DERIVED. GIVEN WITH THE SEED: THE CARDS: each row of YtbhklkpjjpkblaaGreatDoorRows.lean that lists a variable, with what it lists TIED to the program's text (the seventh form; the later family's looks); each row that meets fmt, with fmt's text TOLD by the authors' own Lean function (tested against real Go, not proved from fmt's source: count such statements apart). THE CARD IS WHAT COUNTS. Prove the row's statement (the work); the ties are given (YtbhklkpjjpkblaaGreatDoorTie.lean); close each card by the builder's one call (the guide's Derived/Test/ToyasCard.lean, 'card_holds'). Laid BY PROGRAM, IN A SANDBOX (cutbox-door.mjs). By AI agents, Wed Nov 11 2026. No macro, syntax, notation, axiom, sorry.
-/
import Derived.Test.YtbhklkpjjpkblaaGreatDoorRows
import GoSem.ClaimSeven
namespace Go.Proofs.YtbhklkpjjpkblaaGreatDoor
namespace Rows

/-- THE TIED CARD OF 'laws.FnExactPrintDoc'. -/
def fnExactPrintDocCard : Claim7 := { stood := { row := fnExactPrintDocRow, standIns := [], harness := (true, "866057de1fcb823d8f19aa7a3f17f95875a39a7e5396f3003509bfb5cd8f7c4b"), looks := true }, kinds := [], alts := [], laidByText := true, laidKinds := [.data, .pinned], laidTests := true, laidLooks := .later }
def FnExactPrintDocCardSaid : Prop := Claim7.holds Tryz.pinned (.plain (OpenSpec.ofChange fnExactPrintDocSpec)) fnExactPrintDocCard

/-- THE SECOND FORM's CARD OF 'laws.FnExactPrintDoc'. -/
def fnExactPrintDocUptoCard : Claim7 := { stood := { row := fnExactPrintDocUptoRow, standIns := [], harness := (true, "866057de1fcb823d8f19aa7a3f17f95875a39a7e5396f3003509bfb5cd8f7c4b"), looks := true }, kinds := [], alts := [], laidByText := true, laidKinds := [.data, .pinned], laidTests := true, laidLooks := .later }
def FnExactPrintDocUptoCardSaid : Prop := Claim7.holds Tryz.pinned (.plain (OpenSpec.upto fnExactPrintDocSpec)) fnExactPrintDocUptoCard
end Rows
end Go.Proofs.YtbhklkpjjpkblaaGreatDoor
