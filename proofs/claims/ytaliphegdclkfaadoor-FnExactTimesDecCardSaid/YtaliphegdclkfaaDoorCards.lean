/-
  DERIVED. GIVEN WITH THE SEED: THE CARDS: each row of YtaliphegdclkfaaDoorRows.lean that lists a variable, with what it lists TIED to the program's text (the seventh form; the later family's looks); each row that meets fmt, with fmt's text TOLD by the authors' own Lean function (tested against real Go, not proved from fmt's source: count such statements apart). THE CARD IS WHAT COUNTS. Prove the row's statement (the work); the ties are given (YtaliphegdclkfaaDoorTie.lean); close each card by the builder's one call (the guide's Derived/Test/ToyasCard.lean, 'card_holds'). Laid BY PROGRAM, IN A SANDBOX (cutbox-door.mjs). By AI agents, Wed Nov 11 2026. No macro, syntax, notation, axiom, sorry.
-/
import Derived.Test.YtaliphegdclkfaaDoorRows
import GoSem.ClaimSeven
namespace Go.Proofs.YtaliphegdclkfaaDoor
namespace Rows

/-- THE TIED CARD OF 'laws.FnExactDecOk'. -/
def fnExactDecOkCard : Claim7 := { stood := { row := fnExactDecOkRow, standIns := [], harness := (true, "3b88c51e9b27218c0288d279150e66e59ad6d6220fd98bc30abec4f9226d27b8"), looks := false }, kinds := [], alts := [], laidByText := true, laidKinds := [.data, .pinned], laidTests := true, laidLooks := .later }
def FnExactDecOkCardSaid : Prop := Claim7.holds Tryd.pinned (.plain (OpenSpec.ofChange fnExactDecOkSpec)) fnExactDecOkCard

/-- THE TIED CARD OF 'laws.FnExactTotalDigits'. -/
def fnExactTotalDigitsCard : Claim7 := { stood := { row := fnExactTotalDigitsRow, standIns := [], harness := (true, "3b88c51e9b27218c0288d279150e66e59ad6d6220fd98bc30abec4f9226d27b8"), looks := false }, kinds := [], alts := [], laidByText := true, laidKinds := [.data, .pinned], laidTests := true, laidLooks := .later }
def FnExactTotalDigitsCardSaid : Prop := Claim7.holds Tryd.pinned (.plain (OpenSpec.ofChange fnExactTotalDigitsSpec)) fnExactTotalDigitsCard

/-- THE TIED CARD OF 'laws.FnExactTimesDec'. -/
def fnExactTimesDecCard : Claim7 := { stood := { row := fnExactTimesDecRow, standIns := [], harness := (true, "3b88c51e9b27218c0288d279150e66e59ad6d6220fd98bc30abec4f9226d27b8"), looks := false }, kinds := [], alts := [], laidByText := true, laidKinds := [.data, .pinned], laidTests := true, laidLooks := .later }
def FnExactTimesDecCardSaid : Prop := Claim7.holds Tryd.pinned (.plain (OpenSpec.ofChange fnExactTimesDecSpec)) fnExactTimesDecCard

/-- THE TIED CARD OF 'laws.FnExactReadDec'. -/
def fnExactReadDecCard : Claim7 := { stood := { row := fnExactReadDecRow, standIns := [], harness := (true, "3b88c51e9b27218c0288d279150e66e59ad6d6220fd98bc30abec4f9226d27b8"), looks := false }, kinds := [], alts := [], laidByText := true, laidKinds := [.data, .pinned], laidTests := true, laidLooks := .later }
def FnExactReadDecCardSaid : Prop := Claim7.holds Tryd.pinned (.plain (OpenSpec.ofChange fnExactReadDecSpec)) fnExactReadDecCard

/-- THE TIED CARD OF 'laws.FnExactDecText'. -/
def fnExactDecTextCard : Claim7 := { stood := { row := fnExactDecTextRow, standIns := [], harness := (true, "3b88c51e9b27218c0288d279150e66e59ad6d6220fd98bc30abec4f9226d27b8"), looks := false }, kinds := [], alts := [], laidByText := true, laidKinds := [.data, .pinned], laidTests := true, laidLooks := .later }
def FnExactDecTextCardSaid : Prop := Claim7.holds Tryd.pinned (.plain (OpenSpec.ofChange fnExactDecTextSpec)) fnExactDecTextCard

/-- THE TIED CARD OF 'laws.FnExactAddDec'. -/
def fnExactAddDecCard : Claim7 := { stood := { row := fnExactAddDecRow, standIns := [], harness := (true, "3b88c51e9b27218c0288d279150e66e59ad6d6220fd98bc30abec4f9226d27b8"), looks := false }, kinds := [], alts := [], laidByText := true, laidKinds := [.data, .pinned], laidTests := true, laidLooks := .later }
def FnExactAddDecCardSaid : Prop := Claim7.holds Tryd.pinned (.plain (OpenSpec.ofChange fnExactAddDecSpec)) fnExactAddDecCard

/-- THE SECOND FORM's CARD OF 'laws.FnExactDecOk'. -/
def fnExactDecOkUptoCard : Claim7 := { stood := { row := fnExactDecOkUptoRow, standIns := [], harness := (true, "3b88c51e9b27218c0288d279150e66e59ad6d6220fd98bc30abec4f9226d27b8"), looks := false }, kinds := [], alts := [], laidByText := true, laidKinds := [.data, .pinned], laidTests := true, laidLooks := .later }
def FnExactDecOkUptoCardSaid : Prop := Claim7.holds Tryd.pinned (.plain (OpenSpec.upto fnExactDecOkSpec)) fnExactDecOkUptoCard

/-- THE SECOND FORM's CARD OF 'laws.FnExactTotalDigits'. -/
def fnExactTotalDigitsUptoCard : Claim7 := { stood := { row := fnExactTotalDigitsUptoRow, standIns := [], harness := (true, "3b88c51e9b27218c0288d279150e66e59ad6d6220fd98bc30abec4f9226d27b8"), looks := false }, kinds := [], alts := [], laidByText := true, laidKinds := [.data, .pinned], laidTests := true, laidLooks := .later }
def FnExactTotalDigitsUptoCardSaid : Prop := Claim7.holds Tryd.pinned (.plain (OpenSpec.upto fnExactTotalDigitsSpec)) fnExactTotalDigitsUptoCard

/-- THE SECOND FORM's CARD OF 'laws.FnExactTimesDec'. -/
def fnExactTimesDecUptoCard : Claim7 := { stood := { row := fnExactTimesDecUptoRow, standIns := [], harness := (true, "3b88c51e9b27218c0288d279150e66e59ad6d6220fd98bc30abec4f9226d27b8"), looks := false }, kinds := [], alts := [], laidByText := true, laidKinds := [.data, .pinned], laidTests := true, laidLooks := .later }
def FnExactTimesDecUptoCardSaid : Prop := Claim7.holds Tryd.pinned (.plain (OpenSpec.upto fnExactTimesDecSpec)) fnExactTimesDecUptoCard

/-- THE SECOND FORM's CARD OF 'laws.FnExactReadDec'. -/
def fnExactReadDecUptoCard : Claim7 := { stood := { row := fnExactReadDecUptoRow, standIns := [], harness := (true, "3b88c51e9b27218c0288d279150e66e59ad6d6220fd98bc30abec4f9226d27b8"), looks := false }, kinds := [], alts := [], laidByText := true, laidKinds := [.data, .pinned], laidTests := true, laidLooks := .later }
def FnExactReadDecUptoCardSaid : Prop := Claim7.holds Tryd.pinned (.plain (OpenSpec.upto fnExactReadDecSpec)) fnExactReadDecUptoCard

/-- THE SECOND FORM's CARD OF 'laws.FnExactDecText'. -/
def fnExactDecTextUptoCard : Claim7 := { stood := { row := fnExactDecTextUptoRow, standIns := [], harness := (true, "3b88c51e9b27218c0288d279150e66e59ad6d6220fd98bc30abec4f9226d27b8"), looks := false }, kinds := [], alts := [], laidByText := true, laidKinds := [.data, .pinned], laidTests := true, laidLooks := .later }
def FnExactDecTextUptoCardSaid : Prop := Claim7.holds Tryd.pinned (.plain (OpenSpec.upto fnExactDecTextSpec)) fnExactDecTextUptoCard

/-- THE SECOND FORM's CARD OF 'laws.FnExactAddDec'. -/
def fnExactAddDecUptoCard : Claim7 := { stood := { row := fnExactAddDecUptoRow, standIns := [], harness := (true, "3b88c51e9b27218c0288d279150e66e59ad6d6220fd98bc30abec4f9226d27b8"), looks := false }, kinds := [], alts := [], laidByText := true, laidKinds := [.data, .pinned], laidTests := true, laidLooks := .later }
def FnExactAddDecUptoCardSaid : Prop := Claim7.holds Tryd.pinned (.plain (OpenSpec.upto fnExactAddDecSpec)) fnExactAddDecUptoCard
end Rows
end Go.Proofs.YtaliphegdclkfaaDoor
