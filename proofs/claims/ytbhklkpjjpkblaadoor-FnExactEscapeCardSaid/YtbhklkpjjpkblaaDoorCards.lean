/-
  DERIVED. GIVEN WITH THE SEED: THE CARDS: each row of YtbhklkpjjpkblaaDoorRows.lean that lists a variable, with what it lists TIED to the program's text (the seventh form; the later family's looks); each row that meets fmt, with fmt's text TOLD by the authors' own Lean function (tested against real Go, not proved from fmt's source: count such statements apart). THE CARD IS WHAT COUNTS. Prove the row's statement (the work); the ties are given (YtbhklkpjjpkblaaDoorTie.lean); close each card by the builder's one call (the guide's Derived/Test/ToyasCard.lean, 'card_holds'). Laid BY PROGRAM, IN A SANDBOX (cutbox-door.mjs). By AI agents, Wed Nov 11 2026. No macro, syntax, notation, axiom, sorry.
-/
import Derived.Test.YtbhklkpjjpkblaaDoorRows
import GoSem.ClaimSeven
namespace Go.Proofs.YtbhklkpjjpkblaaDoor
namespace Rows

/-- THE TIED CARD OF 'laws.FnExactUnescape'. -/
def fnExactUnescapeCard : Claim7 := { stood := { row := fnExactUnescapeRow, standIns := [], harness := (true, "fa0c974cbd399fa535e477f122da986fdd03a5407b54bb361c8bf843baa6aa01"), looks := true }, kinds := [], alts := [], laidByText := true, laidKinds := [.data, .data, .data, .data, .sentinel, .sentinel, .pinned], laidTests := true, laidLooks := .later }
def FnExactUnescapeCardSaid : Prop := Claim7.holds Tryd.pinned (.plain (OpenSpec.ofChange fnExactUnescapeSpec)) fnExactUnescapeCard

/-- THE TIED CARD OF 'laws.FnExactEscape'. -/
def fnExactEscapeCard : Claim7 := { stood := { row := fnExactEscapeRow, standIns := [], harness := (true, "fa0c974cbd399fa535e477f122da986fdd03a5407b54bb361c8bf843baa6aa01"), looks := true }, kinds := [], alts := [], laidByText := true, laidKinds := [.data, .pinned], laidTests := true, laidLooks := .later }
def FnExactEscapeCardSaid : Prop := Claim7.holds Tryd.pinned (.plain (OpenSpec.ofChange fnExactEscapeSpec)) fnExactEscapeCard

/-- THE TIED CARD OF 'laws.FnExactDocOk'. -/
def fnExactDocOkCard : Claim7 := { stood := { row := fnExactDocOkRow, standIns := [], harness := (true, "fa0c974cbd399fa535e477f122da986fdd03a5407b54bb361c8bf843baa6aa01"), looks := true }, kinds := [], alts := [], laidByText := true, laidKinds := [.data, .pinned], laidTests := true, laidLooks := .later }
def FnExactDocOkCardSaid : Prop := Claim7.holds Tryd.pinned (.plain (OpenSpec.ofChange fnExactDocOkSpec)) fnExactDocOkCard

/-- THE TIED CARD OF 'laws.FnExactBoundAt'. -/
def fnExactBoundAtCard : Claim7 := { stood := { row := fnExactBoundAtRow, standIns := [], harness := (true, "fa0c974cbd399fa535e477f122da986fdd03a5407b54bb361c8bf843baa6aa01"), looks := true }, kinds := [], alts := [], laidByText := true, laidKinds := [.data, .pinned], laidTests := true, laidLooks := .later }
def FnExactBoundAtCardSaid : Prop := Claim7.holds Tryd.pinned (.plain (OpenSpec.ofChange fnExactBoundAtSpec)) fnExactBoundAtCard

/-- THE TIED CARD OF 'laws.FnExactTextOf'. -/
def fnExactTextOfCard : Claim7 := { stood := { row := fnExactTextOfRow, standIns := [], harness := (true, "fa0c974cbd399fa535e477f122da986fdd03a5407b54bb361c8bf843baa6aa01"), looks := true }, kinds := [], alts := [], laidByText := true, laidKinds := [.data, .pinned], laidTests := true, laidLooks := .later }
def FnExactTextOfCardSaid : Prop := Claim7.holds Tryd.pinned (.plain (OpenSpec.ofChange fnExactTextOfSpec)) fnExactTextOfCard

/-- THE TIED CARD OF 'laws.FnExactKidsOf'. -/
def fnExactKidsOfCard : Claim7 := { stood := { row := fnExactKidsOfRow, standIns := [], harness := (true, "fa0c974cbd399fa535e477f122da986fdd03a5407b54bb361c8bf843baa6aa01"), looks := true }, kinds := [], alts := [], laidByText := true, laidKinds := [.data, .pinned], laidTests := true, laidLooks := .later }
def FnExactKidsOfCardSaid : Prop := Claim7.holds Tryd.pinned (.plain (OpenSpec.ofChange fnExactKidsOfSpec)) fnExactKidsOfCard

/-- THE TIED CARD OF 'laws.FnExactAttrNames'. -/
def fnExactAttrNamesCard : Claim7 := { stood := { row := fnExactAttrNamesRow, standIns := [], harness := (true, "fa0c974cbd399fa535e477f122da986fdd03a5407b54bb361c8bf843baa6aa01"), looks := true }, kinds := [], alts := [], laidByText := true, laidKinds := [.data, .pinned], laidTests := true, laidLooks := .later }
def FnExactAttrNamesCardSaid : Prop := Claim7.holds Tryd.pinned (.plain (OpenSpec.ofChange fnExactAttrNamesSpec)) fnExactAttrNamesCard

/-- THE TIED CARD OF 'laws.FnExactNamesOf'. -/
def fnExactNamesOfCard : Claim7 := { stood := { row := fnExactNamesOfRow, standIns := [], harness := (true, "fa0c974cbd399fa535e477f122da986fdd03a5407b54bb361c8bf843baa6aa01"), looks := true }, kinds := [], alts := [], laidByText := true, laidKinds := [.data, .pinned], laidTests := true, laidLooks := .later }
def FnExactNamesOfCardSaid : Prop := Claim7.holds Tryd.pinned (.plain (OpenSpec.ofChange fnExactNamesOfSpec)) fnExactNamesOfCard

/-- THE SECOND FORM's CARD OF 'laws.FnExactUnescape'. -/
def fnExactUnescapeUptoCard : Claim7 := { stood := { row := fnExactUnescapeUptoRow, standIns := [], harness := (true, "fa0c974cbd399fa535e477f122da986fdd03a5407b54bb361c8bf843baa6aa01"), looks := true }, kinds := [], alts := [], laidByText := true, laidKinds := [.data, .data, .data, .data, .sentinel, .sentinel, .pinned], laidTests := true, laidLooks := .later }
def FnExactUnescapeUptoCardSaid : Prop := Claim7.holds Tryd.pinned (.plain (OpenSpec.upto fnExactUnescapeSpec)) fnExactUnescapeUptoCard

/-- THE SECOND FORM's CARD OF 'laws.FnExactEscape'. -/
def fnExactEscapeUptoCard : Claim7 := { stood := { row := fnExactEscapeUptoRow, standIns := [], harness := (true, "fa0c974cbd399fa535e477f122da986fdd03a5407b54bb361c8bf843baa6aa01"), looks := true }, kinds := [], alts := [], laidByText := true, laidKinds := [.data, .pinned], laidTests := true, laidLooks := .later }
def FnExactEscapeUptoCardSaid : Prop := Claim7.holds Tryd.pinned (.plain (OpenSpec.upto fnExactEscapeSpec)) fnExactEscapeUptoCard

/-- THE SECOND FORM's CARD OF 'laws.FnExactDocOk'. -/
def fnExactDocOkUptoCard : Claim7 := { stood := { row := fnExactDocOkUptoRow, standIns := [], harness := (true, "fa0c974cbd399fa535e477f122da986fdd03a5407b54bb361c8bf843baa6aa01"), looks := true }, kinds := [], alts := [], laidByText := true, laidKinds := [.data, .pinned], laidTests := true, laidLooks := .later }
def FnExactDocOkUptoCardSaid : Prop := Claim7.holds Tryd.pinned (.plain (OpenSpec.upto fnExactDocOkSpec)) fnExactDocOkUptoCard

/-- THE SECOND FORM's CARD OF 'laws.FnExactBoundAt'. -/
def fnExactBoundAtUptoCard : Claim7 := { stood := { row := fnExactBoundAtUptoRow, standIns := [], harness := (true, "fa0c974cbd399fa535e477f122da986fdd03a5407b54bb361c8bf843baa6aa01"), looks := true }, kinds := [], alts := [], laidByText := true, laidKinds := [.data, .pinned], laidTests := true, laidLooks := .later }
def FnExactBoundAtUptoCardSaid : Prop := Claim7.holds Tryd.pinned (.plain (OpenSpec.upto fnExactBoundAtSpec)) fnExactBoundAtUptoCard

/-- THE SECOND FORM's CARD OF 'laws.FnExactTextOf'. -/
def fnExactTextOfUptoCard : Claim7 := { stood := { row := fnExactTextOfUptoRow, standIns := [], harness := (true, "fa0c974cbd399fa535e477f122da986fdd03a5407b54bb361c8bf843baa6aa01"), looks := true }, kinds := [], alts := [], laidByText := true, laidKinds := [.data, .pinned], laidTests := true, laidLooks := .later }
def FnExactTextOfUptoCardSaid : Prop := Claim7.holds Tryd.pinned (.plain (OpenSpec.upto fnExactTextOfSpec)) fnExactTextOfUptoCard

/-- THE SECOND FORM's CARD OF 'laws.FnExactKidsOf'. -/
def fnExactKidsOfUptoCard : Claim7 := { stood := { row := fnExactKidsOfUptoRow, standIns := [], harness := (true, "fa0c974cbd399fa535e477f122da986fdd03a5407b54bb361c8bf843baa6aa01"), looks := true }, kinds := [], alts := [], laidByText := true, laidKinds := [.data, .pinned], laidTests := true, laidLooks := .later }
def FnExactKidsOfUptoCardSaid : Prop := Claim7.holds Tryd.pinned (.plain (OpenSpec.upto fnExactKidsOfSpec)) fnExactKidsOfUptoCard

/-- THE SECOND FORM's CARD OF 'laws.FnExactAttrNames'. -/
def fnExactAttrNamesUptoCard : Claim7 := { stood := { row := fnExactAttrNamesUptoRow, standIns := [], harness := (true, "fa0c974cbd399fa535e477f122da986fdd03a5407b54bb361c8bf843baa6aa01"), looks := true }, kinds := [], alts := [], laidByText := true, laidKinds := [.data, .pinned], laidTests := true, laidLooks := .later }
def FnExactAttrNamesUptoCardSaid : Prop := Claim7.holds Tryd.pinned (.plain (OpenSpec.upto fnExactAttrNamesSpec)) fnExactAttrNamesUptoCard

/-- THE SECOND FORM's CARD OF 'laws.FnExactNamesOf'. -/
def fnExactNamesOfUptoCard : Claim7 := { stood := { row := fnExactNamesOfUptoRow, standIns := [], harness := (true, "fa0c974cbd399fa535e477f122da986fdd03a5407b54bb361c8bf843baa6aa01"), looks := true }, kinds := [], alts := [], laidByText := true, laidKinds := [.data, .pinned], laidTests := true, laidLooks := .later }
def FnExactNamesOfUptoCardSaid : Prop := Claim7.holds Tryd.pinned (.plain (OpenSpec.upto fnExactNamesOfSpec)) fnExactNamesOfUptoCard
end Rows
end Go.Proofs.YtbhklkpjjpkblaaDoor
