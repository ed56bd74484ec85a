-- Printed by this session's pdrive.py over the kit's printer.
import Derived.Test.YtdfopjmokbcnlaaProg
import Derived.Below
import Derived.Deep.Draws
import Derived.Deep.AppendLies
import Derived.Maps.AppendAt
import Derived.OwnWalk
import Derived.Laws.BytesArg
import Derived.Laws.MakeOwn
import Derived.Laws.OwnMore
import Derived.Deep.OwnRows
import Derived.Tactics
import Derived.Lib.ConvBytes
import Derived.Laws.Slices
import Derived.WalkKit
import Derived.KernelRfl
import Derived.RowKit3
import Derived.Deep.LoopGhost
import Derived.Deep.QuietTactic
import Derived.BigQuiet
import Derived.WideLaws
import Derived.Deep.DeepCutAuto
import Derived.Deep.CutBlock
import Derived.Deep.RegionHeld3
import Derived.Laws.Rows
import Derived.Lib.AppendStr
import Derived.ArgAppend
import Derived.Laws.IdiomCopy
import Derived.OrdersHeld
import Derived.Laws.BitsLemmas
import Derived.RowKit
import Derived.Test.YtdfopjmokbcnlaaHWordsB
import Derived.Test.YtdfopjmokbcnlaaWWords
import Derived.Test.YtdfopjmokbcnlaaWLast
import Derived.Test.YtdfopjmokbcnlaaWTab
import Derived.Test.YtdfopjmokbcnlaaWFour
import Derived.Test.YtdfopjmokbcnlaaWQPut
import Derived.Test.YtdfopjmokbcnlaaWApart
import Derived.Test.YtdfopjmokbcnlaaWArr
import Derived.Test.YtdfopjmokbcnlaaWZeros
import Derived.Test.YtdfopjmokbcnlaaWFoot
import Derived.Test.YtdfopjmokbcnlaaWKept
import Derived.Test.YtdfopjmokbcnlaaWShare
import Derived.Test.YtdfopjmokbcnlaaWN
import Derived.Test.YtdfopjmokbcnlaaWFootNe
import Derived.Test.YtdfopjmokbcnlaaWAt
import Derived.Test.YtdfopjmokbcnlaaWEqStruct
import Derived.Test.YtdfopjmokbcnlaaWRepsOne
import Derived.Test.YtdfopjmokbcnlaaWInv
import Derived.Test.YtdfopjmokbcnlaaWInvWords
import Derived.Test.YtdfopjmokbcnlaaWGuard
import Derived.Test.YtdfopjmokbcnlaaWNEv
import Derived.Test.YtdfopjmokbcnlaaWMore
namespace Go.Proofs.Ytdfopjmokbcnlaa.PV
open Go.RowKit Go.Proofs.YtdfopjmokbcnlaaW.PrintWords Go.Proofs.YtdfopjmokbcnlaaW.PrintLast Go.Proofs.YtdfopjmokbcnlaaW.PrintMore Go.Proofs.YtdfopjmokbcnlaaW.WordsB
attribute [local go_sem] max2_int min2_int max_two min_two max_three min_three max_four min_four   -- for this text's walks alone
set_option linter.unusedVariables false
set_option linter.unusedSimpArgs false



def errW : Option Int → Value
  | none => .nilIface
  | some c => .iface 0 (.int .i64 c)
theorem errW_none : errW none = .nilIface := rfl
theorem errW_some (c : Int) : errW (some c) = .iface 0 (.int .i64 c) := rfl

theorem info2 : (Try.prog.info? 2).map (fun i => (i.zero, i.size, i.bytes)) = some (some (.int .i64 0), 1, 8) := by kernel_rfl
-- the values' own types

end Go.Proofs.Ytdfopjmokbcnlaa.PV
