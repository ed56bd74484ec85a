/-
  DERIVED. GIVEN WITH THE SEED: THE CARDS: each row of YtomfhenoblfckaaDoorRows.lean that lists a variable, with what it lists TIED to the program's text (the seventh form; the later family's looks); each row that meets fmt, with fmt's text TOLD by the authors' own Lean function (tested against real Go, not proved from fmt's source: count such statements apart). THE CARD IS WHAT COUNTS. Prove the row's statement (the work); the ties are given (YtomfhenoblfckaaDoorTie.lean); close each card by the builder's one call (the guide's Derived/Test/ToyasCard.lean, 'card_holds'). Laid BY PROGRAM, IN A SANDBOX (cutbox-door.mjs). By AI agents, Wed Nov 11 2026. No macro, syntax, notation, axiom, sorry.
-/
import Derived.Test.YtomfhenoblfckaaDoorRows
import GoSem.ClaimSeven
namespace Go.Proofs.YtomfhenoblfckaaDoor
namespace Rows

/-- THE TIED CARD OF 'laws.FnExactRunes'. -/
def fnExactRunesCard : Claim7 := { stood := { row := fnExactRunesRow, standIns := [], harness := (true, "6eb75b9b1533ffb8decc3a57d9703a772fd841f455bfbb46dd8ba4255fbd1591"), looks := false }, kinds := [], alts := [], laidByText := true, laidKinds := [.data, .pinned], laidTests := true, laidLooks := .later }
def FnExactRunesCardSaid : Prop := Claim7.holds Tryd.pinned (.plain (OpenSpec.ofChange fnExactRunesSpec)) fnExactRunesCard

/-- THE TIED CARD OF 'laws.FnRunes'. -/
def fnRunesCard : Claim7 := { stood := { row := fnRunesRow, standIns := [], harness := (true, "6eb75b9b1533ffb8decc3a57d9703a772fd841f455bfbb46dd8ba4255fbd1591"), looks := false }, kinds := [], alts := [], laidByText := true, laidKinds := [.data, .pinned], laidTests := true, laidLooks := .later }
def FnRunesCardSaid : Prop := Claim7.holds Tryd.pinned (.plain (OpenSpec.ofChange fnRunesSpec)) fnRunesCard

/-- THE TIED CARD OF 'laws.FnExactLines'. -/
def fnExactLinesCard : Claim7 := { stood := { row := fnExactLinesRow, standIns := [], harness := (true, "6eb75b9b1533ffb8decc3a57d9703a772fd841f455bfbb46dd8ba4255fbd1591"), looks := false }, kinds := [], alts := [], laidByText := true, laidKinds := [.data, .pinned], laidTests := true, laidLooks := .later }
def FnExactLinesCardSaid : Prop := Claim7.holds Tryd.pinned (.plain (OpenSpec.ofChange fnExactLinesSpec)) fnExactLinesCard

/-- THE TIED CARD OF 'laws.FnLines'. -/
def fnLinesCard : Claim7 := { stood := { row := fnLinesRow, standIns := [], harness := (true, "6eb75b9b1533ffb8decc3a57d9703a772fd841f455bfbb46dd8ba4255fbd1591"), looks := false }, kinds := [], alts := [], laidByText := true, laidKinds := [.data, .pinned], laidTests := true, laidLooks := .later }
def FnLinesCardSaid : Prop := Claim7.holds Tryd.pinned (.plain (OpenSpec.ofChange fnLinesSpec)) fnLinesCard

/-- THE TIED CARD OF 'laws.FnExactLiteral'. -/
def fnExactLiteralCard : Claim7 := { stood := { row := fnExactLiteralRow, standIns := [], harness := (true, "6eb75b9b1533ffb8decc3a57d9703a772fd841f455bfbb46dd8ba4255fbd1591"), looks := false }, kinds := [], alts := [], laidByText := true, laidKinds := [.data, .pinned], laidTests := true, laidLooks := .later }
def FnExactLiteralCardSaid : Prop := Claim7.holds Tryd.pinned (.plain (OpenSpec.ofChange fnExactLiteralSpec)) fnExactLiteralCard

/-- THE SECOND FORM's CARD OF 'laws.FnExactRunes'. -/
def fnExactRunesUptoCard : Claim7 := { stood := { row := fnExactRunesUptoRow, standIns := [], harness := (true, "6eb75b9b1533ffb8decc3a57d9703a772fd841f455bfbb46dd8ba4255fbd1591"), looks := false }, kinds := [], alts := [], laidByText := true, laidKinds := [.data, .pinned], laidTests := true, laidLooks := .later }
def FnExactRunesUptoCardSaid : Prop := Claim7.holds Tryd.pinned (.plain (OpenSpec.upto fnExactRunesSpec)) fnExactRunesUptoCard

/-- THE SECOND FORM's CARD OF 'laws.FnRunes'. -/
def fnRunesUptoCard : Claim7 := { stood := { row := fnRunesUptoRow, standIns := [], harness := (true, "6eb75b9b1533ffb8decc3a57d9703a772fd841f455bfbb46dd8ba4255fbd1591"), looks := false }, kinds := [], alts := [], laidByText := true, laidKinds := [.data, .pinned], laidTests := true, laidLooks := .later }
def FnRunesUptoCardSaid : Prop := Claim7.holds Tryd.pinned (.plain (OpenSpec.upto fnRunesSpec)) fnRunesUptoCard

/-- THE SECOND FORM's CARD OF 'laws.FnExactLines'. -/
def fnExactLinesUptoCard : Claim7 := { stood := { row := fnExactLinesUptoRow, standIns := [], harness := (true, "6eb75b9b1533ffb8decc3a57d9703a772fd841f455bfbb46dd8ba4255fbd1591"), looks := false }, kinds := [], alts := [], laidByText := true, laidKinds := [.data, .pinned], laidTests := true, laidLooks := .later }
def FnExactLinesUptoCardSaid : Prop := Claim7.holds Tryd.pinned (.plain (OpenSpec.upto fnExactLinesSpec)) fnExactLinesUptoCard

/-- THE SECOND FORM's CARD OF 'laws.FnLines'. -/
def fnLinesUptoCard : Claim7 := { stood := { row := fnLinesUptoRow, standIns := [], harness := (true, "6eb75b9b1533ffb8decc3a57d9703a772fd841f455bfbb46dd8ba4255fbd1591"), looks := false }, kinds := [], alts := [], laidByText := true, laidKinds := [.data, .pinned], laidTests := true, laidLooks := .later }
def FnLinesUptoCardSaid : Prop := Claim7.holds Tryd.pinned (.plain (OpenSpec.upto fnLinesSpec)) fnLinesUptoCard

/-- THE SECOND FORM's CARD OF 'laws.FnExactLiteral'. -/
def fnExactLiteralUptoCard : Claim7 := { stood := { row := fnExactLiteralUptoRow, standIns := [], harness := (true, "6eb75b9b1533ffb8decc3a57d9703a772fd841f455bfbb46dd8ba4255fbd1591"), looks := false }, kinds := [], alts := [], laidByText := true, laidKinds := [.data, .pinned], laidTests := true, laidLooks := .later }
def FnExactLiteralUptoCardSaid : Prop := Claim7.holds Tryd.pinned (.plain (OpenSpec.upto fnExactLiteralSpec)) fnExactLiteralUptoCard
end Rows
end Go.Proofs.YtomfhenoblfckaaDoor
