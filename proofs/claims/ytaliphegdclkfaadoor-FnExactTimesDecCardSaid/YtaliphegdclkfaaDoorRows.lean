/-
  NARROWER THAN 'FOR EVERY INPUT', by the rows' own cells (each row's printed sentence says how): FnExactDecOk: laid · FnExactTotalDigits: laid · FnExactTimesDec: laid · FnExactReadDec: laid · FnExactDecText: laid · FnExactAddDec: laid.
  DERIVED. THE GIVEN ROWS OF THIS SEAT. 6 by the template 'for every input the law returns true; each argument reads behind the call as it read before'; 0 by the template 'total and deterministic' (their statements: YtaliphegdclkfaaDoorTotals.lean).
  GIVEN WITH THE SEED: the statements are not yours to turn. If you find one false, say at which input.
  Laid BY PROGRAM, IN A SANDBOX (cutbox-rows.mjs): the forced cells as the released guide's own fill.sh prints them over the translation 95730d758dd669bb… (all of the seat's roots in one cut). By AI agents, Wed Nov 11 2026. No macro, syntax, notation, axiom, sorry.
-/
import Derived.Test.YtaliphegdclkfaaDoorChecked
import GoSem.PinnedTables
import GoSem.Claim
import GoSem.ClaimJoined
import GoSem.ClaimMapViews
import Derived.JoinedTies
import Derived.KernelRfl
namespace Go.Proofs.YtaliphegdclkfaaDoor
/- THE CELL 'sum', in the pinned program and in every row, IS THE sha256 OF THE DUMP (.gsa) THAT YtaliphegdclkfaaDoorProg.lean LOADS. Nothing in Lean hashes anything: it is a label: what it is worth is what the hold of that sum in a sandbox is worth. -/
noncomputable def Tryd.pinned : Pinned := { name := "ytaliphegdclkfaadoor", sum := "95730d758dd669bb8b96d7d4891f5fb2cc683556f86469f4ee045dd8631f5716", checked := Tryd.checked }
namespace Rows
def none {H : Type} : Left H := { results := [], args := [] }

/- WHAT THE LISTED PACKAGE-LEVEL VARIABLES READ AS WHEN THE CALL BEGINS. Each datum BY PROGRAM (the guide's laid-datum.mjs) off the statement by which the dump's own 'gosem.cut.vars' lays the variable. In a bare row this is a premise. The card (YtaliphegdclkfaaDoorCards.lean) ties it to the program's text. -/
def laid_unicode_utf8_acceptRanges {H : Type} : DataW H := .agg [.agg [.lit (.int .u8 128), .lit (.int .u8 191)], .agg [.lit (.int .u8 160), .lit (.int .u8 191)], .agg [.lit (.int .u8 128), .lit (.int .u8 159)], .agg [.lit (.int .u8 144), .lit (.int .u8 191)], .agg [.lit (.int .u8 128), .lit (.int .u8 143)], .agg [.lit (.int .u8 0), .lit (.int .u8 0)], .agg [.lit (.int .u8 0), .lit (.int .u8 0)], .agg [.lit (.int .u8 0), .lit (.int .u8 0)], .agg [.lit (.int .u8 0), .lit (.int .u8 0)], .agg [.lit (.int .u8 0), .lit (.int .u8 0)], .agg [.lit (.int .u8 0), .lit (.int .u8 0)], .agg [.lit (.int .u8 0), .lit (.int .u8 0)], .agg [.lit (.int .u8 0), .lit (.int .u8 0)], .agg [.lit (.int .u8 0), .lit (.int .u8 0)], .agg [.lit (.int .u8 0), .lit (.int .u8 0)], .agg [.lit (.int .u8 0), .lit (.int .u8 0)]]
/-- One of Go's own tables, pinned by name: the form's constant. -/
def laid_unicode_utf8_first : DataW Unit := Go.Pinned.utf8First

/-- 'laws.FnExactDecOk': WHATEVER THE INPUT: true; the input reads as it did. -/
def fnExactDecOkSpec : ChangeSpec := { name := "fnExactDecOk", fn := fun _ => fun
  | [d] => { results := [.lit (.bool true)], args := [d] }
  | _ => none }
def fnExactDecOkRow : OpenClaim := { program := "ytaliphegdclkfaadoor", sum := "95730d758dd669bb8b96d7d4891f5fb2cc683556f86469f4ee045dd8631f5716", func := "loop.example/g00262/laws.FnExactDecOk", spec := "fnExactDecOk", inPlace := ["internal/bytealg.IndexByteString", "internal/bytealg.IndexString"], named := ["unicode/utf8.first", "unicode/utf8.acceptRanges", "internal/bytealg.MaxLen"], apart := false, laid := [("unicode/utf8.acceptRanges", laid_unicode_utf8_acceptRanges), ("unicode/utf8.first", laid_unicode_utf8_first)] }
def FnExactDecOkSaid : Prop := fnExactDecOkRow.holds Tryd.pinned (OpenSpec.ofChange fnExactDecOkSpec)

/-- ITS FALSE NEIGHBOUR: 'it returns false'. Refute it at one input. -/
def fnExactDecOkWrong : ChangeSpec := { name := "fnExactDecOk", fn := fun _ => fun
  | [d] => { results := [.lit (.bool false)], args := [d] }
  | _ => none }
def FnExactDecOkWrongFalsely : Prop := fnExactDecOkRow.holds Tryd.pinned (OpenSpec.ofChange fnExactDecOkWrong)

/-- 'laws.FnExactTotalDigits': WHATEVER THE INPUT: true; the input reads as it did. -/
def fnExactTotalDigitsSpec : ChangeSpec := { name := "fnExactTotalDigits", fn := fun _ => fun
  | [d] => { results := [.lit (.bool true)], args := [d] }
  | _ => none }
def fnExactTotalDigitsRow : OpenClaim := { program := "ytaliphegdclkfaadoor", sum := "95730d758dd669bb8b96d7d4891f5fb2cc683556f86469f4ee045dd8631f5716", func := "loop.example/g00262/laws.FnExactTotalDigits", spec := "fnExactTotalDigits", inPlace := ["internal/bytealg.IndexByteString", "internal/bytealg.IndexString"], named := ["unicode/utf8.first", "unicode/utf8.acceptRanges", "internal/bytealg.MaxLen"], apart := false, laid := [("unicode/utf8.acceptRanges", laid_unicode_utf8_acceptRanges), ("unicode/utf8.first", laid_unicode_utf8_first)] }
def FnExactTotalDigitsSaid : Prop := fnExactTotalDigitsRow.holds Tryd.pinned (OpenSpec.ofChange fnExactTotalDigitsSpec)

/-- ITS FALSE NEIGHBOUR: 'it returns false'. Refute it at one input. -/
def fnExactTotalDigitsWrong : ChangeSpec := { name := "fnExactTotalDigits", fn := fun _ => fun
  | [d] => { results := [.lit (.bool false)], args := [d] }
  | _ => none }
def FnExactTotalDigitsWrongFalsely : Prop := fnExactTotalDigitsRow.holds Tryd.pinned (OpenSpec.ofChange fnExactTotalDigitsWrong)

/-- 'laws.FnExactTimesDec': WHATEVER THE INPUT: true; the input reads as it did. -/
def fnExactTimesDecSpec : ChangeSpec := { name := "fnExactTimesDec", fn := fun _ => fun
  | [d1, d2] => { results := [.lit (.bool true)], args := [d1, d2] }
  | _ => none }
def fnExactTimesDecRow : OpenClaim := { program := "ytaliphegdclkfaadoor", sum := "95730d758dd669bb8b96d7d4891f5fb2cc683556f86469f4ee045dd8631f5716", func := "loop.example/g00262/laws.FnExactTimesDec", spec := "fnExactTimesDec", inPlace := ["internal/bytealg.IndexByteString", "internal/bytealg.IndexString", "internal/abi.NoEscape"], named := ["unicode/utf8.first", "unicode/utf8.acceptRanges", "internal/bytealg.MaxLen"], apart := false, laid := [("unicode/utf8.acceptRanges", laid_unicode_utf8_acceptRanges), ("unicode/utf8.first", laid_unicode_utf8_first)] }
def FnExactTimesDecSaid : Prop := fnExactTimesDecRow.holds Tryd.pinned (OpenSpec.ofChange fnExactTimesDecSpec)

/-- ITS FALSE NEIGHBOUR: 'it returns false'. Refute it at one input. -/
def fnExactTimesDecWrong : ChangeSpec := { name := "fnExactTimesDec", fn := fun _ => fun
  | [d1, d2] => { results := [.lit (.bool false)], args := [d1, d2] }
  | _ => none }
def FnExactTimesDecWrongFalsely : Prop := fnExactTimesDecRow.holds Tryd.pinned (OpenSpec.ofChange fnExactTimesDecWrong)

/-- 'laws.FnExactReadDec': WHATEVER THE INPUT: true; the input reads as it did. -/
def fnExactReadDecSpec : ChangeSpec := { name := "fnExactReadDec", fn := fun _ => fun
  | [d] => { results := [.lit (.bool true)], args := [d] }
  | _ => none }
def fnExactReadDecRow : OpenClaim := { program := "ytaliphegdclkfaadoor", sum := "95730d758dd669bb8b96d7d4891f5fb2cc683556f86469f4ee045dd8631f5716", func := "loop.example/g00262/laws.FnExactReadDec", spec := "fnExactReadDec", inPlace := ["internal/bytealg.IndexByteString", "internal/bytealg.IndexString"], named := ["internal/bytealg.MaxLen", "unicode/utf8.first", "unicode/utf8.acceptRanges"], apart := false, laid := [("unicode/utf8.acceptRanges", laid_unicode_utf8_acceptRanges), ("unicode/utf8.first", laid_unicode_utf8_first)] }
def FnExactReadDecSaid : Prop := fnExactReadDecRow.holds Tryd.pinned (OpenSpec.ofChange fnExactReadDecSpec)

/-- ITS FALSE NEIGHBOUR: 'it returns false'. Refute it at one input. -/
def fnExactReadDecWrong : ChangeSpec := { name := "fnExactReadDec", fn := fun _ => fun
  | [d] => { results := [.lit (.bool false)], args := [d] }
  | _ => none }
def FnExactReadDecWrongFalsely : Prop := fnExactReadDecRow.holds Tryd.pinned (OpenSpec.ofChange fnExactReadDecWrong)

/-- 'laws.FnExactDecText': WHATEVER THE INPUT: true; the input reads as it did. -/
def fnExactDecTextSpec : ChangeSpec := { name := "fnExactDecText", fn := fun _ => fun
  | [d] => { results := [.lit (.bool true)], args := [d] }
  | _ => none }
def fnExactDecTextRow : OpenClaim := { program := "ytaliphegdclkfaadoor", sum := "95730d758dd669bb8b96d7d4891f5fb2cc683556f86469f4ee045dd8631f5716", func := "loop.example/g00262/laws.FnExactDecText", spec := "fnExactDecText", inPlace := ["internal/bytealg.IndexByteString", "internal/bytealg.IndexString", "internal/abi.NoEscape", "internal/bytealg.MakeNoZero"], named := ["unicode/utf8.first", "unicode/utf8.acceptRanges", "internal/bytealg.MaxLen"], apart := false, laid := [("unicode/utf8.acceptRanges", laid_unicode_utf8_acceptRanges), ("unicode/utf8.first", laid_unicode_utf8_first)] }
def FnExactDecTextSaid : Prop := fnExactDecTextRow.holds Tryd.pinned (OpenSpec.ofChange fnExactDecTextSpec)

/-- ITS FALSE NEIGHBOUR: 'it returns false'. Refute it at one input. -/
def fnExactDecTextWrong : ChangeSpec := { name := "fnExactDecText", fn := fun _ => fun
  | [d] => { results := [.lit (.bool false)], args := [d] }
  | _ => none }
def FnExactDecTextWrongFalsely : Prop := fnExactDecTextRow.holds Tryd.pinned (OpenSpec.ofChange fnExactDecTextWrong)

/-- 'laws.FnExactAddDec': WHATEVER THE INPUT: true; the input reads as it did. -/
def fnExactAddDecSpec : ChangeSpec := { name := "fnExactAddDec", fn := fun _ => fun
  | [d1, d2] => { results := [.lit (.bool true)], args := [d1, d2] }
  | _ => none }
def fnExactAddDecRow : OpenClaim := { program := "ytaliphegdclkfaadoor", sum := "95730d758dd669bb8b96d7d4891f5fb2cc683556f86469f4ee045dd8631f5716", func := "loop.example/g00262/laws.FnExactAddDec", spec := "fnExactAddDec", inPlace := ["internal/bytealg.IndexByteString", "internal/bytealg.IndexString", "internal/abi.NoEscape", "internal/bytealg.MakeNoZero"], named := ["unicode/utf8.first", "unicode/utf8.acceptRanges", "internal/bytealg.MaxLen"], apart := false, laid := [("unicode/utf8.acceptRanges", laid_unicode_utf8_acceptRanges), ("unicode/utf8.first", laid_unicode_utf8_first)] }
def FnExactAddDecSaid : Prop := fnExactAddDecRow.holds Tryd.pinned (OpenSpec.ofChange fnExactAddDecSpec)

/-- ITS FALSE NEIGHBOUR: 'it returns false'. Refute it at one input. -/
def fnExactAddDecWrong : ChangeSpec := { name := "fnExactAddDec", fn := fun _ => fun
  | [d1, d2] => { results := [.lit (.bool false)], args := [d1, d2] }
  | _ => none }
def FnExactAddDecWrongFalsely : Prop := fnExactAddDecRow.holds Tryd.pinned (OpenSpec.ofChange fnExactAddDecWrong)

/- THE SECOND FORM. 'bulk': how many values and letters a reading holds, each counted each time it is reached (what is shared counts as often as it is met; a slice's spare places count too). A statement '..UptoSaid' is the law's where the arguments, and the package variables that the reading takes, are together of bulk at most 1048576: NARROWER than '..Said'. Prove '..Said' where nothing that the law and all that it calls make is longer than what came in: it says more and counts as full. Else prove '..UptoSaid'. A law counts once. -/
mutual
def uptoBulk {H : Type} : DataW H → Nat
  | .lit (.string bytes) => bytes.length + 1
  | .lit _ => 1
  | .nil => 1
  | .ptr d => uptoBulk d + 1
  | .slice elems spare => uptoBulkAll elems + uptoBulkAll spare + 1
  | .agg parts => uptoBulkAll parts + 1
  | .iface _ d => uptoBulk d + 1
  | .map entries => uptoBulkEntries entries + 1
  | .held _ => 1
def uptoBulkAll {H : Type} : List (DataW H) → Nat
  | [] => 0
  | d :: r => uptoBulk d + uptoBulkAll r
def uptoBulkEntries {H : Type} : List (Lit × DataW H) → Nat
  | [] => 0
  | x :: r => uptoBulkEntry x + uptoBulkEntries r
def uptoBulkEntry {H : Type} : Lit × DataW H → Nat
  | (.string bytes, d) => bytes.length + uptoBulk d + 1
  | (_, d) => uptoBulk d + 1
 end
def uptoSmall : (H : Type) → List (DataW H) → Bool := fun _ ds => decide (uptoBulkAll ds ≤ 1048576)
def OpenSpec.upto (s : _root_.Go.ChangeSpec) : _root_.Go.OpenSpec := { _root_.Go.OpenSpec.ofChange s with cond := some uptoSmall }

/-- 'laws.FnExactDecOk', WHERE WHAT IT READS IS OF BULK AT MOST 1048576: true; the input reads as it did. -/
def fnExactDecOkUptoRow : OpenClaim := { program := "ytaliphegdclkfaadoor", sum := "95730d758dd669bb8b96d7d4891f5fb2cc683556f86469f4ee045dd8631f5716", func := "loop.example/g00262/laws.FnExactDecOk", spec := "fnExactDecOk", inPlace := ["internal/bytealg.IndexByteString", "internal/bytealg.IndexString"], named := ["unicode/utf8.first", "unicode/utf8.acceptRanges", "internal/bytealg.MaxLen"], apart := false, laid := [("unicode/utf8.acceptRanges", laid_unicode_utf8_acceptRanges), ("unicode/utf8.first", laid_unicode_utf8_first)], narrowed := true }
def FnExactDecOkUptoSaid : Prop := fnExactDecOkUptoRow.holds Tryd.pinned (OpenSpec.upto fnExactDecOkSpec)

/-- 'laws.FnExactTotalDigits', WHERE WHAT IT READS IS OF BULK AT MOST 1048576: true; the input reads as it did. -/
def fnExactTotalDigitsUptoRow : OpenClaim := { program := "ytaliphegdclkfaadoor", sum := "95730d758dd669bb8b96d7d4891f5fb2cc683556f86469f4ee045dd8631f5716", func := "loop.example/g00262/laws.FnExactTotalDigits", spec := "fnExactTotalDigits", inPlace := ["internal/bytealg.IndexByteString", "internal/bytealg.IndexString"], named := ["unicode/utf8.first", "unicode/utf8.acceptRanges", "internal/bytealg.MaxLen"], apart := false, laid := [("unicode/utf8.acceptRanges", laid_unicode_utf8_acceptRanges), ("unicode/utf8.first", laid_unicode_utf8_first)], narrowed := true }
def FnExactTotalDigitsUptoSaid : Prop := fnExactTotalDigitsUptoRow.holds Tryd.pinned (OpenSpec.upto fnExactTotalDigitsSpec)

/-- 'laws.FnExactTimesDec', WHERE WHAT IT READS IS OF BULK AT MOST 1048576: true; the input reads as it did. -/
def fnExactTimesDecUptoRow : OpenClaim := { program := "ytaliphegdclkfaadoor", sum := "95730d758dd669bb8b96d7d4891f5fb2cc683556f86469f4ee045dd8631f5716", func := "loop.example/g00262/laws.FnExactTimesDec", spec := "fnExactTimesDec", inPlace := ["internal/bytealg.IndexByteString", "internal/bytealg.IndexString", "internal/abi.NoEscape"], named := ["unicode/utf8.first", "unicode/utf8.acceptRanges", "internal/bytealg.MaxLen"], apart := false, laid := [("unicode/utf8.acceptRanges", laid_unicode_utf8_acceptRanges), ("unicode/utf8.first", laid_unicode_utf8_first)], narrowed := true }
def FnExactTimesDecUptoSaid : Prop := fnExactTimesDecUptoRow.holds Tryd.pinned (OpenSpec.upto fnExactTimesDecSpec)

/-- 'laws.FnExactReadDec', WHERE WHAT IT READS IS OF BULK AT MOST 1048576: true; the input reads as it did. -/
def fnExactReadDecUptoRow : OpenClaim := { program := "ytaliphegdclkfaadoor", sum := "95730d758dd669bb8b96d7d4891f5fb2cc683556f86469f4ee045dd8631f5716", func := "loop.example/g00262/laws.FnExactReadDec", spec := "fnExactReadDec", inPlace := ["internal/bytealg.IndexByteString", "internal/bytealg.IndexString"], named := ["internal/bytealg.MaxLen", "unicode/utf8.first", "unicode/utf8.acceptRanges"], apart := false, laid := [("unicode/utf8.acceptRanges", laid_unicode_utf8_acceptRanges), ("unicode/utf8.first", laid_unicode_utf8_first)], narrowed := true }
def FnExactReadDecUptoSaid : Prop := fnExactReadDecUptoRow.holds Tryd.pinned (OpenSpec.upto fnExactReadDecSpec)

/-- 'laws.FnExactDecText', WHERE WHAT IT READS IS OF BULK AT MOST 1048576: true; the input reads as it did. -/
def fnExactDecTextUptoRow : OpenClaim := { program := "ytaliphegdclkfaadoor", sum := "95730d758dd669bb8b96d7d4891f5fb2cc683556f86469f4ee045dd8631f5716", func := "loop.example/g00262/laws.FnExactDecText", spec := "fnExactDecText", inPlace := ["internal/bytealg.IndexByteString", "internal/bytealg.IndexString", "internal/abi.NoEscape", "internal/bytealg.MakeNoZero"], named := ["unicode/utf8.first", "unicode/utf8.acceptRanges", "internal/bytealg.MaxLen"], apart := false, laid := [("unicode/utf8.acceptRanges", laid_unicode_utf8_acceptRanges), ("unicode/utf8.first", laid_unicode_utf8_first)], narrowed := true }
def FnExactDecTextUptoSaid : Prop := fnExactDecTextUptoRow.holds Tryd.pinned (OpenSpec.upto fnExactDecTextSpec)

/-- 'laws.FnExactAddDec', WHERE WHAT IT READS IS OF BULK AT MOST 1048576: true; the input reads as it did. -/
def fnExactAddDecUptoRow : OpenClaim := { program := "ytaliphegdclkfaadoor", sum := "95730d758dd669bb8b96d7d4891f5fb2cc683556f86469f4ee045dd8631f5716", func := "loop.example/g00262/laws.FnExactAddDec", spec := "fnExactAddDec", inPlace := ["internal/bytealg.IndexByteString", "internal/bytealg.IndexString", "internal/abi.NoEscape", "internal/bytealg.MakeNoZero"], named := ["unicode/utf8.first", "unicode/utf8.acceptRanges", "internal/bytealg.MaxLen"], apart := false, laid := [("unicode/utf8.acceptRanges", laid_unicode_utf8_acceptRanges), ("unicode/utf8.first", laid_unicode_utf8_first)], narrowed := true }
def FnExactAddDecUptoSaid : Prop := fnExactAddDecUptoRow.holds Tryd.pinned (OpenSpec.upto fnExactAddDecSpec)

end Rows
end Go.Proofs.YtaliphegdclkfaaDoor
