/-
  No cell of these rows narrows 'for every input' (looked for: loops, veiled, ifaces, maps, wideKeys, modest, calm, conditions, laid).
  DERIVED. THE GIVEN ROWS OF THIS SEAT. 10 by the template 'for every input the law returns true; each argument reads behind the call as it read before'; 0 by the template 'total and deterministic' (their statements: YtdfopjmokbcnlaaTotals.lean).
  GIVEN WITH THE SEED: the statements are not yours to turn. If you find one false, say at which input.
  Laid BY PROGRAM, IN A SANDBOX (cutbox-rows.mjs): the forced cells as the released guide's own fill.sh prints them over the translation 7412735fe5fc6880… (all of the seat's roots in one cut). By AI agents, Wed Nov 11 2026. No macro, syntax, notation, axiom, sorry.
-/
import Derived.Test.YtdfopjmokbcnlaaChecked
import GoSem.Claim
import GoSem.ClaimJoined
import GoSem.ClaimMapViews
import Derived.JoinedTies
import Derived.KernelRfl
namespace Go.Proofs.Ytdfopjmokbcnlaa
/- THE CELL 'sum', in the pinned program and in every row, IS THE sha256 OF THE DUMP (.gsa) THAT YtdfopjmokbcnlaaProg.lean LOADS. Nothing in Lean hashes anything: it is a label: what it is worth is what the hold of that sum in a sandbox is worth. -/
noncomputable def Try.pinned : Pinned := { name := "ytdfopjmokbcnlaa", sum := "7412735fe5fc6880bae74523184d4706101f7eb688c6115a92ba0553dca6f49c", checked := Try.checked }
namespace Rows
def none {H : Type} : Left H := { results := [], args := [] }

/-- 'laws.FnExactConstants': WHATEVER THE INPUT: true; the input reads as it did. -/
def fnExactConstantsSpec : ChangeSpec := { name := "fnExactConstants", fn := fun _ => fun
  | [] => { results := [.lit (.bool true)], args := [] }
  | _ => none }
def fnExactConstantsRow : OpenClaim := { program := "ytdfopjmokbcnlaa", sum := "7412735fe5fc6880bae74523184d4706101f7eb688c6115a92ba0553dca6f49c", func := "loop.example/g00262/laws.FnExactConstants", spec := "fnExactConstants", apart := false }
def FnExactConstantsSaid : Prop := fnExactConstantsRow.holds Try.pinned (OpenSpec.ofChange fnExactConstantsSpec)

/-- ITS FALSE NEIGHBOUR: 'it returns false'. Refute it at one input. -/
def fnExactConstantsWrong : ChangeSpec := { name := "fnExactConstants", fn := fun _ => fun
  | [] => { results := [.lit (.bool false)], args := [] }
  | _ => none }
def FnExactConstantsWrongFalsely : Prop := fnExactConstantsRow.holds Try.pinned (OpenSpec.ofChange fnExactConstantsWrong)

/-- 'laws.FnExactCharOk': WHATEVER THE INPUT: true; the input reads as it did. -/
def fnExactCharOkSpec : ChangeSpec := { name := "fnExactCharOk", fn := fun _ => fun
  | [d] => { results := [.lit (.bool true)], args := [d] }
  | _ => none }
def fnExactCharOkRow : OpenClaim := { program := "ytdfopjmokbcnlaa", sum := "7412735fe5fc6880bae74523184d4706101f7eb688c6115a92ba0553dca6f49c", func := "loop.example/g00262/laws.FnExactCharOk", spec := "fnExactCharOk", apart := false }
def FnExactCharOkSaid : Prop := fnExactCharOkRow.holds Try.pinned (OpenSpec.ofChange fnExactCharOkSpec)

/-- ITS FALSE NEIGHBOUR: 'it returns false'. Refute it at one input. -/
def fnExactCharOkWrong : ChangeSpec := { name := "fnExactCharOk", fn := fun _ => fun
  | [d] => { results := [.lit (.bool false)], args := [d] }
  | _ => none }
def FnExactCharOkWrongFalsely : Prop := fnExactCharOkRow.holds Try.pinned (OpenSpec.ofChange fnExactCharOkWrong)

/-- 'laws.FnExactDaysIn': WHATEVER THE INPUT: true; the input reads as it did. -/
def fnExactDaysInSpec : ChangeSpec := { name := "fnExactDaysIn", fn := fun _ => fun
  | [d1, d2] => { results := [.lit (.bool true)], args := [d1, d2] }
  | _ => none }
def fnExactDaysInRow : OpenClaim := { program := "ytdfopjmokbcnlaa", sum := "7412735fe5fc6880bae74523184d4706101f7eb688c6115a92ba0553dca6f49c", func := "loop.example/g00262/laws.FnExactDaysIn", spec := "fnExactDaysIn", apart := false }
def FnExactDaysInSaid : Prop := fnExactDaysInRow.holds Try.pinned (OpenSpec.ofChange fnExactDaysInSpec)

/-- ITS FALSE NEIGHBOUR: 'it returns false'. Refute it at one input. -/
def fnExactDaysInWrong : ChangeSpec := { name := "fnExactDaysIn", fn := fun _ => fun
  | [d1, d2] => { results := [.lit (.bool false)], args := [d1, d2] }
  | _ => none }
def FnExactDaysInWrongFalsely : Prop := fnExactDaysInRow.holds Try.pinned (OpenSpec.ofChange fnExactDaysInWrong)

/-- 'laws.FnExactDateOk': WHATEVER THE INPUT: true; the input reads as it did. -/
def fnExactDateOkSpec : ChangeSpec := { name := "fnExactDateOk", fn := fun _ => fun
  | [d] => { results := [.lit (.bool true)], args := [d] }
  | _ => none }
def fnExactDateOkRow : OpenClaim := { program := "ytdfopjmokbcnlaa", sum := "7412735fe5fc6880bae74523184d4706101f7eb688c6115a92ba0553dca6f49c", func := "loop.example/g00262/laws.FnExactDateOk", spec := "fnExactDateOk", apart := false }
def FnExactDateOkSaid : Prop := fnExactDateOkRow.holds Try.pinned (OpenSpec.ofChange fnExactDateOkSpec)

/-- ITS FALSE NEIGHBOUR: 'it returns false'. Refute it at one input. -/
def fnExactDateOkWrong : ChangeSpec := { name := "fnExactDateOk", fn := fun _ => fun
  | [d] => { results := [.lit (.bool false)], args := [d] }
  | _ => none }
def FnExactDateOkWrongFalsely : Prop := fnExactDateOkRow.holds Try.pinned (OpenSpec.ofChange fnExactDateOkWrong)

/-- 'laws.FnExactSecondsOf': WHATEVER THE INPUT: true; the input reads as it did. -/
def fnExactSecondsOfSpec : ChangeSpec := { name := "fnExactSecondsOf", fn := fun _ => fun
  | [d] => { results := [.lit (.bool true)], args := [d] }
  | _ => none }
def fnExactSecondsOfRow : OpenClaim := { program := "ytdfopjmokbcnlaa", sum := "7412735fe5fc6880bae74523184d4706101f7eb688c6115a92ba0553dca6f49c", func := "loop.example/g00262/laws.FnExactSecondsOf", spec := "fnExactSecondsOf", apart := false }
def FnExactSecondsOfSaid : Prop := fnExactSecondsOfRow.holds Try.pinned (OpenSpec.ofChange fnExactSecondsOfSpec)

/-- ITS FALSE NEIGHBOUR: 'it returns false'. Refute it at one input. -/
def fnExactSecondsOfWrong : ChangeSpec := { name := "fnExactSecondsOf", fn := fun _ => fun
  | [d] => { results := [.lit (.bool false)], args := [d] }
  | _ => none }
def FnExactSecondsOfWrongFalsely : Prop := fnExactSecondsOfRow.holds Try.pinned (OpenSpec.ofChange fnExactSecondsOfWrong)

/-- 'laws.FnExactCompareDate': WHATEVER THE INPUT: true; the input reads as it did. -/
def fnExactCompareDateSpec : ChangeSpec := { name := "fnExactCompareDate", fn := fun _ => fun
  | [d1, d2] => { results := [.lit (.bool true)], args := [d1, d2] }
  | _ => none }
def fnExactCompareDateRow : OpenClaim := { program := "ytdfopjmokbcnlaa", sum := "7412735fe5fc6880bae74523184d4706101f7eb688c6115a92ba0553dca6f49c", func := "loop.example/g00262/laws.FnExactCompareDate", spec := "fnExactCompareDate", apart := false }
def FnExactCompareDateSaid : Prop := fnExactCompareDateRow.holds Try.pinned (OpenSpec.ofChange fnExactCompareDateSpec)

/-- ITS FALSE NEIGHBOUR: 'it returns false'. Refute it at one input. -/
def fnExactCompareDateWrong : ChangeSpec := { name := "fnExactCompareDate", fn := fun _ => fun
  | [d1, d2] => { results := [.lit (.bool false)], args := [d1, d2] }
  | _ => none }
def FnExactCompareDateWrongFalsely : Prop := fnExactCompareDateRow.holds Try.pinned (OpenSpec.ofChange fnExactCompareDateWrong)

/-- 'laws.FnNextDay': WHATEVER THE INPUT: true; the input reads as it did. -/
def fnNextDaySpec : ChangeSpec := { name := "fnNextDay", fn := fun _ => fun
  | [d] => { results := [.lit (.bool true)], args := [d] }
  | _ => none }
def fnNextDayRow : OpenClaim := { program := "ytdfopjmokbcnlaa", sum := "7412735fe5fc6880bae74523184d4706101f7eb688c6115a92ba0553dca6f49c", func := "loop.example/g00262/laws.FnNextDay", spec := "fnNextDay", apart := false }
def FnNextDaySaid : Prop := fnNextDayRow.holds Try.pinned (OpenSpec.ofChange fnNextDaySpec)

/-- ITS FALSE NEIGHBOUR: 'it returns false'. Refute it at one input. -/
def fnNextDayWrong : ChangeSpec := { name := "fnNextDay", fn := fun _ => fun
  | [d] => { results := [.lit (.bool false)], args := [d] }
  | _ => none }
def FnNextDayWrongFalsely : Prop := fnNextDayRow.holds Try.pinned (OpenSpec.ofChange fnNextDayWrong)

/-- 'laws.FnExactShifted': WHATEVER THE INPUT: true; the input reads as it did. -/
def fnExactShiftedSpec : ChangeSpec := { name := "fnExactShifted", fn := fun _ => fun
  | [d1, d2] => { results := [.lit (.bool true)], args := [d1, d2] }
  | _ => none }
def fnExactShiftedRow : OpenClaim := { program := "ytdfopjmokbcnlaa", sum := "7412735fe5fc6880bae74523184d4706101f7eb688c6115a92ba0553dca6f49c", func := "loop.example/g00262/laws.FnExactShifted", spec := "fnExactShifted", apart := false }
def FnExactShiftedSaid : Prop := fnExactShiftedRow.holds Try.pinned (OpenSpec.ofChange fnExactShiftedSpec)

/-- ITS FALSE NEIGHBOUR: 'it returns false'. Refute it at one input. -/
def fnExactShiftedWrong : ChangeSpec := { name := "fnExactShifted", fn := fun _ => fun
  | [d1, d2] => { results := [.lit (.bool false)], args := [d1, d2] }
  | _ => none }
def FnExactShiftedWrongFalsely : Prop := fnExactShiftedRow.holds Try.pinned (OpenSpec.ofChange fnExactShiftedWrong)

/-- 'laws.FnDateOrder': WHATEVER THE INPUT: true; the input reads as it did. -/
def fnDateOrderSpec : ChangeSpec := { name := "fnDateOrder", fn := fun _ => fun
  | [d] => { results := [.lit (.bool true)], args := [d] }
  | _ => none }
def fnDateOrderRow : OpenClaim := { program := "ytdfopjmokbcnlaa", sum := "7412735fe5fc6880bae74523184d4706101f7eb688c6115a92ba0553dca6f49c", func := "loop.example/g00262/laws.FnDateOrder", spec := "fnDateOrder", apart := false }
def FnDateOrderSaid : Prop := fnDateOrderRow.holds Try.pinned (OpenSpec.ofChange fnDateOrderSpec)

/-- ITS FALSE NEIGHBOUR: 'it returns false'. Refute it at one input. -/
def fnDateOrderWrong : ChangeSpec := { name := "fnDateOrder", fn := fun _ => fun
  | [d] => { results := [.lit (.bool false)], args := [d] }
  | _ => none }
def FnDateOrderWrongFalsely : Prop := fnDateOrderRow.holds Try.pinned (OpenSpec.ofChange fnDateOrderWrong)

/-- 'laws.FnShifted': WHATEVER THE INPUT: true; the input reads as it did. -/
def fnShiftedSpec : ChangeSpec := { name := "fnShifted", fn := fun _ => fun
  | [d] => { results := [.lit (.bool true)], args := [d] }
  | _ => none }
def fnShiftedRow : OpenClaim := { program := "ytdfopjmokbcnlaa", sum := "7412735fe5fc6880bae74523184d4706101f7eb688c6115a92ba0553dca6f49c", func := "loop.example/g00262/laws.FnShifted", spec := "fnShifted", apart := false }
def FnShiftedSaid : Prop := fnShiftedRow.holds Try.pinned (OpenSpec.ofChange fnShiftedSpec)

/-- ITS FALSE NEIGHBOUR: 'it returns false'. Refute it at one input. -/
def fnShiftedWrong : ChangeSpec := { name := "fnShifted", fn := fun _ => fun
  | [d] => { results := [.lit (.bool false)], args := [d] }
  | _ => none }
def FnShiftedWrongFalsely : Prop := fnShiftedRow.holds Try.pinned (OpenSpec.ofChange fnShiftedWrong)

/- THE SECOND FORM. 'bulk': how many values and letters a reading holds, each counted each time it is reached (what is shared counts as often as it is met; a slice's spare places count too). A statement '..UptoSaid' is the law's where the arguments, and the package variables that the reading takes, are together of bulk at most 1048576: NARROWER than '..Said'. Prove '..Said' where nothing that the law and all that it calls make is longer than what came in: it says more and counts as full. Else prove '..UptoSaid'. A law counts once. -/
mutual
def uptoBulk {H : Type} : DataW H → Nat
  | .lit (.string bytes) => bytes.length + 1
  | .lit _ => 1
  | .nil => 1
  | .ptr d => uptoBulk d + 1
  | .slice elems spare => uptoBulkAll elems + uptoBulkAll spare + 1
  | .agg parts => uptoBulkAll parts + 1
  | .iface _ d => uptoBulk d + 1
  | .map entries => uptoBulkEntries entries + 1
  | .held _ => 1
def uptoBulkAll {H : Type} : List (DataW H) → Nat
  | [] => 0
  | d :: r => uptoBulk d + uptoBulkAll r
def uptoBulkEntries {H : Type} : List (Lit × DataW H) → Nat
  | [] => 0
  | x :: r => uptoBulkEntry x + uptoBulkEntries r
def uptoBulkEntry {H : Type} : Lit × DataW H → Nat
  | (.string bytes, d) => bytes.length + uptoBulk d + 1
  | (_, d) => uptoBulk d + 1
 end
def uptoSmall : (H : Type) → List (DataW H) → Bool := fun _ ds => decide (uptoBulkAll ds ≤ 1048576)
def OpenSpec.upto (s : _root_.Go.ChangeSpec) : _root_.Go.OpenSpec := { _root_.Go.OpenSpec.ofChange s with cond := some uptoSmall }

/-- 'laws.FnExactConstants', WHERE WHAT IT READS IS OF BULK AT MOST 1048576: true; the input reads as it did. -/
def fnExactConstantsUptoRow : OpenClaim := { program := "ytdfopjmokbcnlaa", sum := "7412735fe5fc6880bae74523184d4706101f7eb688c6115a92ba0553dca6f49c", func := "loop.example/g00262/laws.FnExactConstants", spec := "fnExactConstants", apart := false, narrowed := true }
def FnExactConstantsUptoSaid : Prop := fnExactConstantsUptoRow.holds Try.pinned (OpenSpec.upto fnExactConstantsSpec)

/-- 'laws.FnExactCharOk', WHERE WHAT IT READS IS OF BULK AT MOST 1048576: true; the input reads as it did. -/
def fnExactCharOkUptoRow : OpenClaim := { program := "ytdfopjmokbcnlaa", sum := "7412735fe5fc6880bae74523184d4706101f7eb688c6115a92ba0553dca6f49c", func := "loop.example/g00262/laws.FnExactCharOk", spec := "fnExactCharOk", apart := false, narrowed := true }
def FnExactCharOkUptoSaid : Prop := fnExactCharOkUptoRow.holds Try.pinned (OpenSpec.upto fnExactCharOkSpec)

/-- 'laws.FnExactDaysIn', WHERE WHAT IT READS IS OF BULK AT MOST 1048576: true; the input reads as it did. -/
def fnExactDaysInUptoRow : OpenClaim := { program := "ytdfopjmokbcnlaa", sum := "7412735fe5fc6880bae74523184d4706101f7eb688c6115a92ba0553dca6f49c", func := "loop.example/g00262/laws.FnExactDaysIn", spec := "fnExactDaysIn", apart := false, narrowed := true }
def FnExactDaysInUptoSaid : Prop := fnExactDaysInUptoRow.holds Try.pinned (OpenSpec.upto fnExactDaysInSpec)

/-- 'laws.FnExactDateOk', WHERE WHAT IT READS IS OF BULK AT MOST 1048576: true; the input reads as it did. -/
def fnExactDateOkUptoRow : OpenClaim := { program := "ytdfopjmokbcnlaa", sum := "7412735fe5fc6880bae74523184d4706101f7eb688c6115a92ba0553dca6f49c", func := "loop.example/g00262/laws.FnExactDateOk", spec := "fnExactDateOk", apart := false, narrowed := true }
def FnExactDateOkUptoSaid : Prop := fnExactDateOkUptoRow.holds Try.pinned (OpenSpec.upto fnExactDateOkSpec)

/-- 'laws.FnExactSecondsOf', WHERE WHAT IT READS IS OF BULK AT MOST 1048576: true; the input reads as it did. -/
def fnExactSecondsOfUptoRow : OpenClaim := { program := "ytdfopjmokbcnlaa", sum := "7412735fe5fc6880bae74523184d4706101f7eb688c6115a92ba0553dca6f49c", func := "loop.example/g00262/laws.FnExactSecondsOf", spec := "fnExactSecondsOf", apart := false, narrowed := true }
def FnExactSecondsOfUptoSaid : Prop := fnExactSecondsOfUptoRow.holds Try.pinned (OpenSpec.upto fnExactSecondsOfSpec)

/-- 'laws.FnExactCompareDate', WHERE WHAT IT READS IS OF BULK AT MOST 1048576: true; the input reads as it did. -/
def fnExactCompareDateUptoRow : OpenClaim := { program := "ytdfopjmokbcnlaa", sum := "7412735fe5fc6880bae74523184d4706101f7eb688c6115a92ba0553dca6f49c", func := "loop.example/g00262/laws.FnExactCompareDate", spec := "fnExactCompareDate", apart := false, narrowed := true }
def FnExactCompareDateUptoSaid : Prop := fnExactCompareDateUptoRow.holds Try.pinned (OpenSpec.upto fnExactCompareDateSpec)

/-- 'laws.FnNextDay', WHERE WHAT IT READS IS OF BULK AT MOST 1048576: true; the input reads as it did. -/
def fnNextDayUptoRow : OpenClaim := { program := "ytdfopjmokbcnlaa", sum := "7412735fe5fc6880bae74523184d4706101f7eb688c6115a92ba0553dca6f49c", func := "loop.example/g00262/laws.FnNextDay", spec := "fnNextDay", apart := false, narrowed := true }
def FnNextDayUptoSaid : Prop := fnNextDayUptoRow.holds Try.pinned (OpenSpec.upto fnNextDaySpec)

/-- 'laws.FnExactShifted', WHERE WHAT IT READS IS OF BULK AT MOST 1048576: true; the input reads as it did. -/
def fnExactShiftedUptoRow : OpenClaim := { program := "ytdfopjmokbcnlaa", sum := "7412735fe5fc6880bae74523184d4706101f7eb688c6115a92ba0553dca6f49c", func := "loop.example/g00262/laws.FnExactShifted", spec := "fnExactShifted", apart := false, narrowed := true }
def FnExactShiftedUptoSaid : Prop := fnExactShiftedUptoRow.holds Try.pinned (OpenSpec.upto fnExactShiftedSpec)

/-- 'laws.FnDateOrder', WHERE WHAT IT READS IS OF BULK AT MOST 1048576: true; the input reads as it did. -/
def fnDateOrderUptoRow : OpenClaim := { program := "ytdfopjmokbcnlaa", sum := "7412735fe5fc6880bae74523184d4706101f7eb688c6115a92ba0553dca6f49c", func := "loop.example/g00262/laws.FnDateOrder", spec := "fnDateOrder", apart := false, narrowed := true }
def FnDateOrderUptoSaid : Prop := fnDateOrderUptoRow.holds Try.pinned (OpenSpec.upto fnDateOrderSpec)

/-- 'laws.FnShifted', WHERE WHAT IT READS IS OF BULK AT MOST 1048576: true; the input reads as it did. -/
def fnShiftedUptoRow : OpenClaim := { program := "ytdfopjmokbcnlaa", sum := "7412735fe5fc6880bae74523184d4706101f7eb688c6115a92ba0553dca6f49c", func := "loop.example/g00262/laws.FnShifted", spec := "fnShifted", apart := false, narrowed := true }
def FnShiftedUptoSaid : Prop := fnShiftedUptoRow.holds Try.pinned (OpenSpec.upto fnShiftedSpec)

end Rows
end Go.Proofs.Ytdfopjmokbcnlaa
