-- Printed by this session's pdrive.py over the kit's printer.
import Derived.Test.YtdfopjmokbcnlaaDoorProg
import Derived.Below
import Derived.Deep.Draws
import Derived.Deep.AppendLies
import Derived.Maps.AppendAt
import Derived.OwnWalk
import Derived.Laws.BytesArg
import Derived.Laws.MakeOwn
import Derived.Laws.OwnMore
import Derived.Deep.OwnRows
import Derived.Tactics
import Derived.Lib.ConvBytes
import Derived.Laws.Slices
import Derived.WalkKit
import Derived.KernelRfl
import Derived.RowKit3
import Derived.Deep.LoopGhost
import Derived.Deep.QuietTactic
import Derived.BigQuiet
import Derived.WideLaws
import Derived.Deep.DeepCutAuto
import Derived.Deep.CutBlock
import Derived.Deep.RegionHeld3
import Derived.Laws.Rows
import Derived.Lib.AppendStr
import Derived.ArgAppend
import Derived.Laws.IdiomCopy
import Derived.OrdersHeld
import Derived.Laws.BitsLemmas
import Derived.RowKit
import Derived.Shelf.Strconv.ParseIntPublic10
import Derived.Test.YtdfopjmokbcnlaaDoorHShelf
import Derived.Test.YtdfopjmokbcnlaaDoorHWordsB
import Derived.Test.YtdfopjmokbcnlaaDoorWWords
import Derived.Test.YtdfopjmokbcnlaaDoorWLast
import Derived.Test.YtdfopjmokbcnlaaDoorWTab
import Derived.Test.YtdfopjmokbcnlaaDoorWFour
import Derived.Test.YtdfopjmokbcnlaaDoorWQPut
import Derived.Test.YtdfopjmokbcnlaaDoorWApart
import Derived.Test.YtdfopjmokbcnlaaDoorWArr
import Derived.Test.YtdfopjmokbcnlaaDoorWZeros
import Derived.Test.YtdfopjmokbcnlaaDoorWFoot
import Derived.Test.YtdfopjmokbcnlaaDoorWKept
import Derived.Test.YtdfopjmokbcnlaaDoorWShare
import Derived.Test.YtdfopjmokbcnlaaDoorWN
import Derived.Test.YtdfopjmokbcnlaaDoorWFootNe
import Derived.Test.YtdfopjmokbcnlaaDoorWAt
import Derived.Test.YtdfopjmokbcnlaaDoorWEqStruct
import Derived.Test.YtdfopjmokbcnlaaDoorWRepsOne
import Derived.Test.YtdfopjmokbcnlaaDoorWInv
import Derived.Test.YtdfopjmokbcnlaaDoorWInvWords
import Derived.Test.YtdfopjmokbcnlaaDoorWGuard
import Derived.Test.YtdfopjmokbcnlaaDoorWNEv
import Derived.Test.YtdfopjmokbcnlaaDoorWMore
namespace Go.Proofs.YtdfopjmokbcnlaaDoor.PR
open Go.RowKit Go.Proofs.YtdfopjmokbcnlaaDoorW.PrintWords Go.Proofs.YtdfopjmokbcnlaaDoorW.PrintLast Go.Proofs.YtdfopjmokbcnlaaDoorW.PrintMore Go.Proofs.YtdfopjmokbcnlaaDoorW.WordsB
attribute [local go_sem] max2_int min2_int max_two min_two max_three min_three max_four min_four   -- for this text's walks alone
set_option linter.unusedVariables false
set_option linter.unusedSimpArgs false



def errW : Option Int → Value
  | none => .nilIface
  | some c => .iface 0 (.int .i64 c)
theorem errW_none : errW none = .nilIface := rfl
theorem errW_some (c : Int) : errW (some c) = .iface 0 (.int .i64 c) := rfl

theorem info2 : (Tryd.prog.info? 2).map (fun i => (i.zero, i.size, i.bytes)) = some (some (.int .i64 0), 1, 8) := by kernel_rfl
-- the values' own types

end Go.Proofs.YtdfopjmokbcnlaaDoor.PR
