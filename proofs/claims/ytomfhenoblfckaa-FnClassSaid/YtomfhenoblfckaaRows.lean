/-
  No cell of these rows narrows 'for every input' (looked for: loops, veiled, ifaces, maps, wideKeys, modest, calm, conditions, laid).
  DERIVED. THE GIVEN ROWS OF THIS SEAT. 7 by the template 'for every input the law returns true; each argument reads behind the call as it read before'; 0 by the template 'total and deterministic' (their statements: YtomfhenoblfckaaTotals.lean).
  GIVEN WITH THE SEED: the statements are not yours to turn. If you find one false, say at which input.
  Laid BY PROGRAM, IN A SANDBOX (cutbox-rows.mjs): the forced cells as the released guide's own fill.sh prints them over the translation 363938ce9ecac52a… (all of the seat's roots in one cut). By AI agents, Wed Nov 11 2026. No macro, syntax, notation, axiom, sorry.
-/
import Derived.Test.YtomfhenoblfckaaChecked
import GoSem.Claim
import GoSem.ClaimJoined
import GoSem.ClaimMapViews
import Derived.JoinedTies
import Derived.KernelRfl
namespace Go.Proofs.Ytomfhenoblfckaa
/- THE CELL 'sum', in the pinned program and in every row, IS THE sha256 OF THE DUMP (.gsa) THAT YtomfhenoblfckaaProg.lean LOADS. Nothing in Lean hashes anything: it is a label: what it is worth is what the hold of that sum in a sandbox is worth. -/
noncomputable def Try.pinned : Pinned := { name := "ytomfhenoblfckaa", sum := "363938ce9ecac52a8ee668e2548938c461ad3bd4b9d71e980b6613ec1892e11f", checked := Try.checked }
namespace Rows
def none {H : Type} : Left H := { results := [], args := [] }

/-- 'laws.FnExactNameOk': WHATEVER THE INPUT: true; the input reads as it did. -/
def fnExactNameOkSpec : ChangeSpec := { name := "fnExactNameOk", fn := fun _ => fun
  | [d] => { results := [.lit (.bool true)], args := [d] }
  | _ => none }
def fnExactNameOkRow : OpenClaim := { program := "ytomfhenoblfckaa", sum := "363938ce9ecac52a8ee668e2548938c461ad3bd4b9d71e980b6613ec1892e11f", func := "loop.example/g00262/laws.FnExactNameOk", spec := "fnExactNameOk", apart := false }
def FnExactNameOkSaid : Prop := fnExactNameOkRow.holds Try.pinned (OpenSpec.ofChange fnExactNameOkSpec)

/-- ITS FALSE NEIGHBOUR: 'it returns false'. Refute it at one input. -/
def fnExactNameOkWrong : ChangeSpec := { name := "fnExactNameOk", fn := fun _ => fun
  | [d] => { results := [.lit (.bool false)], args := [d] }
  | _ => none }
def FnExactNameOkWrongFalsely : Prop := fnExactNameOkRow.holds Try.pinned (OpenSpec.ofChange fnExactNameOkWrong)

/-- 'laws.FnExactOfRunes': WHATEVER THE INPUT: true; the input reads as it did. -/
def fnExactOfRunesSpec : ChangeSpec := { name := "fnExactOfRunes", fn := fun _ => fun
  | [d] => { results := [.lit (.bool true)], args := [d] }
  | _ => none }
def fnExactOfRunesRow : OpenClaim := { program := "ytomfhenoblfckaa", sum := "363938ce9ecac52a8ee668e2548938c461ad3bd4b9d71e980b6613ec1892e11f", func := "loop.example/g00262/laws.FnExactOfRunes", spec := "fnExactOfRunes", apart := false }
def FnExactOfRunesSaid : Prop := fnExactOfRunesRow.holds Try.pinned (OpenSpec.ofChange fnExactOfRunesSpec)

/-- ITS FALSE NEIGHBOUR: 'it returns false'. Refute it at one input. -/
def fnExactOfRunesWrong : ChangeSpec := { name := "fnExactOfRunes", fn := fun _ => fun
  | [d] => { results := [.lit (.bool false)], args := [d] }
  | _ => none }
def FnExactOfRunesWrongFalsely : Prop := fnExactOfRunesRow.holds Try.pinned (OpenSpec.ofChange fnExactOfRunesWrong)

/-- 'laws.FnExactSplit': WHATEVER THE INPUT: true; the input reads as it did. -/
def fnExactSplitSpec : ChangeSpec := { name := "fnExactSplit", fn := fun _ => fun
  | [d] => { results := [.lit (.bool true)], args := [d] }
  | _ => none }
def fnExactSplitRow : OpenClaim := { program := "ytomfhenoblfckaa", sum := "363938ce9ecac52a8ee668e2548938c461ad3bd4b9d71e980b6613ec1892e11f", func := "loop.example/g00262/laws.FnExactSplit", spec := "fnExactSplit", inPlace := ["internal/bytealg.IndexByteString", "internal/bytealg.IndexString"], named := ["internal/bytealg.MaxLen"], apart := false }
def FnExactSplitSaid : Prop := fnExactSplitRow.holds Try.pinned (OpenSpec.ofChange fnExactSplitSpec)

/-- ITS FALSE NEIGHBOUR: 'it returns false'. Refute it at one input. -/
def fnExactSplitWrong : ChangeSpec := { name := "fnExactSplit", fn := fun _ => fun
  | [d] => { results := [.lit (.bool false)], args := [d] }
  | _ => none }
def FnExactSplitWrongFalsely : Prop := fnExactSplitRow.holds Try.pinned (OpenSpec.ofChange fnExactSplitWrong)

/-- 'laws.FnSplit': WHATEVER THE INPUT: true; the input reads as it did. -/
def fnSplitSpec : ChangeSpec := { name := "fnSplit", fn := fun _ => fun
  | [d] => { results := [.lit (.bool true)], args := [d] }
  | _ => none }
def fnSplitRow : OpenClaim := { program := "ytomfhenoblfckaa", sum := "363938ce9ecac52a8ee668e2548938c461ad3bd4b9d71e980b6613ec1892e11f", func := "loop.example/g00262/laws.FnSplit", spec := "fnSplit", inPlace := ["internal/bytealg.IndexByteString", "internal/bytealg.IndexString"], named := ["internal/bytealg.MaxLen"], apart := false }
def FnSplitSaid : Prop := fnSplitRow.holds Try.pinned (OpenSpec.ofChange fnSplitSpec)

/-- ITS FALSE NEIGHBOUR: 'it returns false'. Refute it at one input. -/
def fnSplitWrong : ChangeSpec := { name := "fnSplit", fn := fun _ => fun
  | [d] => { results := [.lit (.bool false)], args := [d] }
  | _ => none }
def FnSplitWrongFalsely : Prop := fnSplitRow.holds Try.pinned (OpenSpec.ofChange fnSplitWrong)

/-- 'laws.FnExactClassHas': WHATEVER THE INPUT: true; the input reads as it did. -/
def fnExactClassHasSpec : ChangeSpec := { name := "fnExactClassHas", fn := fun _ => fun
  | [d1, d2] => { results := [.lit (.bool true)], args := [d1, d2] }
  | _ => none }
def fnExactClassHasRow : OpenClaim := { program := "ytomfhenoblfckaa", sum := "363938ce9ecac52a8ee668e2548938c461ad3bd4b9d71e980b6613ec1892e11f", func := "loop.example/g00262/laws.FnExactClassHas", spec := "fnExactClassHas", unfollowed := true, recurses := true, apart := false }
def FnExactClassHasSaid : Prop := fnExactClassHasRow.holds Try.pinned (OpenSpec.ofChange fnExactClassHasSpec)

/-- ITS FALSE NEIGHBOUR: 'it returns false'. Refute it at one input. -/
def fnExactClassHasWrong : ChangeSpec := { name := "fnExactClassHas", fn := fun _ => fun
  | [d1, d2] => { results := [.lit (.bool false)], args := [d1, d2] }
  | _ => none }
def FnExactClassHasWrongFalsely : Prop := fnExactClassHasRow.holds Try.pinned (OpenSpec.ofChange fnExactClassHasWrong)

/-- 'laws.FnClass': WHATEVER THE INPUT: true; the input reads as it did. -/
def fnClassSpec : ChangeSpec := { name := "fnClass", fn := fun _ => fun
  | [d] => { results := [.lit (.bool true)], args := [d] }
  | _ => none }
def fnClassRow : OpenClaim := { program := "ytomfhenoblfckaa", sum := "363938ce9ecac52a8ee668e2548938c461ad3bd4b9d71e980b6613ec1892e11f", func := "loop.example/g00262/laws.FnClass", spec := "fnClass", unfollowed := true, recurses := true, apart := false }
def FnClassSaid : Prop := fnClassRow.holds Try.pinned (OpenSpec.ofChange fnClassSpec)

/-- ITS FALSE NEIGHBOUR: 'it returns false'. Refute it at one input. -/
def fnClassWrong : ChangeSpec := { name := "fnClass", fn := fun _ => fun
  | [d] => { results := [.lit (.bool false)], args := [d] }
  | _ => none }
def FnClassWrongFalsely : Prop := fnClassRow.holds Try.pinned (OpenSpec.ofChange fnClassWrong)

/-- 'laws.FnExactRegexOk': WHATEVER THE INPUT: true; the input reads as it did. -/
def fnExactRegexOkSpec : ChangeSpec := { name := "fnExactRegexOk", fn := fun _ => fun
  | [d] => { results := [.lit (.bool true)], args := [d] }
  | _ => none }
def fnExactRegexOkRow : OpenClaim := { program := "ytomfhenoblfckaa", sum := "363938ce9ecac52a8ee668e2548938c461ad3bd4b9d71e980b6613ec1892e11f", func := "loop.example/g00262/laws.FnExactRegexOk", spec := "fnExactRegexOk", recurses := true, apart := false }
def FnExactRegexOkSaid : Prop := fnExactRegexOkRow.holds Try.pinned (OpenSpec.ofChange fnExactRegexOkSpec)

/-- ITS FALSE NEIGHBOUR: 'it returns false'. Refute it at one input. -/
def fnExactRegexOkWrong : ChangeSpec := { name := "fnExactRegexOk", fn := fun _ => fun
  | [d] => { results := [.lit (.bool false)], args := [d] }
  | _ => none }
def FnExactRegexOkWrongFalsely : Prop := fnExactRegexOkRow.holds Try.pinned (OpenSpec.ofChange fnExactRegexOkWrong)

/- THE SECOND FORM. 'bulk': how many values and letters a reading holds, each counted each time it is reached (what is shared counts as often as it is met; a slice's spare places count too). A statement '..UptoSaid' is the law's where the arguments, and the package variables that the reading takes, are together of bulk at most 1048576: NARROWER than '..Said'. Prove '..Said' where nothing that the law and all that it calls make is longer than what came in: it says more and counts as full. Else prove '..UptoSaid'. A law counts once. -/
mutual
def uptoBulk {H : Type} : DataW H → Nat
  | .lit (.string bytes) => bytes.length + 1
  | .lit _ => 1
  | .nil => 1
  | .ptr d => uptoBulk d + 1
  | .slice elems spare => uptoBulkAll elems + uptoBulkAll spare + 1
  | .agg parts => uptoBulkAll parts + 1
  | .iface _ d => uptoBulk d + 1
  | .map entries => uptoBulkEntries entries + 1
  | .held _ => 1
def uptoBulkAll {H : Type} : List (DataW H) → Nat
  | [] => 0
  | d :: r => uptoBulk d + uptoBulkAll r
def uptoBulkEntries {H : Type} : List (Lit × DataW H) → Nat
  | [] => 0
  | x :: r => uptoBulkEntry x + uptoBulkEntries r
def uptoBulkEntry {H : Type} : Lit × DataW H → Nat
  | (.string bytes, d) => bytes.length + uptoBulk d + 1
  | (_, d) => uptoBulk d + 1
 end
def uptoSmall : (H : Type) → List (DataW H) → Bool := fun _ ds => decide (uptoBulkAll ds ≤ 1048576)
def OpenSpec.upto (s : _root_.Go.ChangeSpec) : _root_.Go.OpenSpec := { _root_.Go.OpenSpec.ofChange s with cond := some uptoSmall }

/-- 'laws.FnExactNameOk', WHERE WHAT IT READS IS OF BULK AT MOST 1048576: true; the input reads as it did. -/
def fnExactNameOkUptoRow : OpenClaim := { program := "ytomfhenoblfckaa", sum := "363938ce9ecac52a8ee668e2548938c461ad3bd4b9d71e980b6613ec1892e11f", func := "loop.example/g00262/laws.FnExactNameOk", spec := "fnExactNameOk", apart := false, narrowed := true }
def FnExactNameOkUptoSaid : Prop := fnExactNameOkUptoRow.holds Try.pinned (OpenSpec.upto fnExactNameOkSpec)

/-- 'laws.FnExactOfRunes', WHERE WHAT IT READS IS OF BULK AT MOST 1048576: true; the input reads as it did. -/
def fnExactOfRunesUptoRow : OpenClaim := { program := "ytomfhenoblfckaa", sum := "363938ce9ecac52a8ee668e2548938c461ad3bd4b9d71e980b6613ec1892e11f", func := "loop.example/g00262/laws.FnExactOfRunes", spec := "fnExactOfRunes", apart := false, narrowed := true }
def FnExactOfRunesUptoSaid : Prop := fnExactOfRunesUptoRow.holds Try.pinned (OpenSpec.upto fnExactOfRunesSpec)

/-- 'laws.FnExactSplit', WHERE WHAT IT READS IS OF BULK AT MOST 1048576: true; the input reads as it did. -/
def fnExactSplitUptoRow : OpenClaim := { program := "ytomfhenoblfckaa", sum := "363938ce9ecac52a8ee668e2548938c461ad3bd4b9d71e980b6613ec1892e11f", func := "loop.example/g00262/laws.FnExactSplit", spec := "fnExactSplit", inPlace := ["internal/bytealg.IndexByteString", "internal/bytealg.IndexString"], named := ["internal/bytealg.MaxLen"], apart := false, narrowed := true }
def FnExactSplitUptoSaid : Prop := fnExactSplitUptoRow.holds Try.pinned (OpenSpec.upto fnExactSplitSpec)

/-- 'laws.FnSplit', WHERE WHAT IT READS IS OF BULK AT MOST 1048576: true; the input reads as it did. -/
def fnSplitUptoRow : OpenClaim := { program := "ytomfhenoblfckaa", sum := "363938ce9ecac52a8ee668e2548938c461ad3bd4b9d71e980b6613ec1892e11f", func := "loop.example/g00262/laws.FnSplit", spec := "fnSplit", inPlace := ["internal/bytealg.IndexByteString", "internal/bytealg.IndexString"], named := ["internal/bytealg.MaxLen"], apart := false, narrowed := true }
def FnSplitUptoSaid : Prop := fnSplitUptoRow.holds Try.pinned (OpenSpec.upto fnSplitSpec)

/-- 'laws.FnExactClassHas', WHERE WHAT IT READS IS OF BULK AT MOST 1048576: true; the input reads as it did. -/
def fnExactClassHasUptoRow : OpenClaim := { program := "ytomfhenoblfckaa", sum := "363938ce9ecac52a8ee668e2548938c461ad3bd4b9d71e980b6613ec1892e11f", func := "loop.example/g00262/laws.FnExactClassHas", spec := "fnExactClassHas", unfollowed := true, recurses := true, apart := false, narrowed := true }
def FnExactClassHasUptoSaid : Prop := fnExactClassHasUptoRow.holds Try.pinned (OpenSpec.upto fnExactClassHasSpec)

/-- 'laws.FnClass', WHERE WHAT IT READS IS OF BULK AT MOST 1048576: true; the input reads as it did. -/
def fnClassUptoRow : OpenClaim := { program := "ytomfhenoblfckaa", sum := "363938ce9ecac52a8ee668e2548938c461ad3bd4b9d71e980b6613ec1892e11f", func := "loop.example/g00262/laws.FnClass", spec := "fnClass", unfollowed := true, recurses := true, apart := false, narrowed := true }
def FnClassUptoSaid : Prop := fnClassUptoRow.holds Try.pinned (OpenSpec.upto fnClassSpec)

/-- 'laws.FnExactRegexOk', WHERE WHAT IT READS IS OF BULK AT MOST 1048576: true; the input reads as it did. -/
def fnExactRegexOkUptoRow : OpenClaim := { program := "ytomfhenoblfckaa", sum := "363938ce9ecac52a8ee668e2548938c461ad3bd4b9d71e980b6613ec1892e11f", func := "loop.example/g00262/laws.FnExactRegexOk", spec := "fnExactRegexOk", recurses := true, apart := false, narrowed := true }
def FnExactRegexOkUptoSaid : Prop := fnExactRegexOkUptoRow.holds Try.pinned (OpenSpec.upto fnExactRegexOkSpec)

end Rows
end Go.Proofs.Ytomfhenoblfckaa
