-- Printed by this session's pdrive.py over the kit's printer.
import Derived.Test.YtaliphegdclkfaaDoorProg
import Derived.Below
import Derived.Deep.Draws
import Derived.Deep.AppendLies
import Derived.Maps.AppendAt
import Derived.OwnWalk
import Derived.Laws.BytesArg
import Derived.Laws.MakeOwn
import Derived.Laws.OwnMore
import Derived.Deep.OwnRows
import Derived.Tactics
import Derived.Lib.ConvBytes
import Derived.Laws.Slices
import Derived.WalkKit
import Derived.KernelRfl
import Derived.RowKit3
import Derived.Deep.LoopGhost
import Derived.Deep.QuietTactic
import Derived.BigQuiet
import Derived.WideLaws
import Derived.Deep.DeepCutAuto
import Derived.Deep.CutBlock
import Derived.Deep.RegionHeld3
import Derived.Laws.Rows
import Derived.Lib.AppendStr
import Derived.ArgAppend
import Derived.Laws.IdiomCopy
import Derived.OrdersHeld
import Derived.Laws.BitsLemmas
import Derived.RowKit
import Derived.Lib.Bytealg
import Derived.Test.YtaliphegdclkfaaDoorHShelf
import Derived.Test.YtaliphegdclkfaaDoorHWordsB
import Derived.Test.YtaliphegdclkfaaDoorWWords
import Derived.Test.YtaliphegdclkfaaDoorWLast
import Derived.Test.YtaliphegdclkfaaDoorWTab
import Derived.Test.YtaliphegdclkfaaDoorWFour
import Derived.Test.YtaliphegdclkfaaDoorWQPut
import Derived.Test.YtaliphegdclkfaaDoorWApart
import Derived.Test.YtaliphegdclkfaaDoorWArr
import Derived.Test.YtaliphegdclkfaaDoorWZeros
import Derived.Test.YtaliphegdclkfaaDoorWFoot
import Derived.Test.YtaliphegdclkfaaDoorWKept
import Derived.Test.YtaliphegdclkfaaDoorWShare
import Derived.Test.YtaliphegdclkfaaDoorWN
import Derived.Test.YtaliphegdclkfaaDoorWFootNe
import Derived.Test.YtaliphegdclkfaaDoorWAt
import Derived.Test.YtaliphegdclkfaaDoorWEqStruct
import Derived.Test.YtaliphegdclkfaaDoorWRepsOne
import Derived.Test.YtaliphegdclkfaaDoorWInv
import Derived.Test.YtaliphegdclkfaaDoorWInvWords
import Derived.Test.YtaliphegdclkfaaDoorWGuard
import Derived.Test.YtaliphegdclkfaaDoorWNEv
import Derived.Test.YtaliphegdclkfaaDoorWMore
namespace Go.Proofs.YtaliphegdclkfaaDoor.PN
open Go.RowKit Go.Proofs.YtaliphegdclkfaaDoorW.PrintWords Go.Proofs.YtaliphegdclkfaaDoorW.PrintLast Go.Proofs.YtaliphegdclkfaaDoorW.PrintMore Go.Proofs.YtaliphegdclkfaaDoorW.WordsB
attribute [local go_sem] max2_int min2_int max_two min_two max_three min_three max_four min_four   -- for this text's walks alone
set_option linter.unusedVariables false
set_option linter.unusedSimpArgs false



def errW : Option Int → Value
  | none => .nilIface
  | some c => .iface 0 (.int .i64 c)
theorem errW_none : errW none = .nilIface := rfl
theorem errW_some (c : Int) : errW (some c) = .iface 0 (.int .i64 c) := rfl

-- the values' own types

end Go.Proofs.YtaliphegdclkfaaDoor.PN
