-- Printed by this session's pdrive.py over the kit's printer.
import Derived.Test.YtomfhenoblfckaaDoorProg
import Derived.Below
import Derived.Deep.Draws
import Derived.Deep.AppendLies
import Derived.Maps.AppendAt
import Derived.OwnWalk
import Derived.Laws.BytesArg
import Derived.Laws.MakeOwn
import Derived.Laws.OwnMore
import Derived.Deep.OwnRows
import Derived.Tactics
import Derived.Lib.ConvBytes
import Derived.Laws.Slices
import Derived.WalkKit
import Derived.KernelRfl
import Derived.RowKit3
import Derived.Deep.LoopGhost
import Derived.Deep.QuietTactic
import Derived.BigQuiet
import Derived.WideLaws
import Derived.Deep.DeepCutAuto
import Derived.Deep.CutBlock
import Derived.Deep.RegionHeld3
import Derived.Laws.Rows
import Derived.Lib.AppendStr
import Derived.ArgAppend
import Derived.Laws.IdiomCopy
import Derived.OrdersHeld
import Derived.Laws.BitsLemmas
import Derived.RowKit
import Derived.Lib.Replace
import Derived.Test.YtomfhenoblfckaaDoorHGl
import Derived.Test.YtomfhenoblfckaaDoorHWordsB
import Derived.Test.YtomfhenoblfckaaDoorWWords
import Derived.Test.YtomfhenoblfckaaDoorWLast
import Derived.Test.YtomfhenoblfckaaDoorWTab
import Derived.Test.YtomfhenoblfckaaDoorWFour
import Derived.Test.YtomfhenoblfckaaDoorWQPut
import Derived.Test.YtomfhenoblfckaaDoorWApart
import Derived.Test.YtomfhenoblfckaaDoorWArr
import Derived.Test.YtomfhenoblfckaaDoorWZeros
import Derived.Test.YtomfhenoblfckaaDoorWFoot
import Derived.Test.YtomfhenoblfckaaDoorWKept
import Derived.Test.YtomfhenoblfckaaDoorWShare
import Derived.Test.YtomfhenoblfckaaDoorWN
import Derived.Test.YtomfhenoblfckaaDoorWFootNe
import Derived.Test.YtomfhenoblfckaaDoorWAt
import Derived.Test.YtomfhenoblfckaaDoorWEqStruct
import Derived.Test.YtomfhenoblfckaaDoorWRepsOne
import Derived.Test.YtomfhenoblfckaaDoorWInv
import Derived.Test.YtomfhenoblfckaaDoorWInvWords
import Derived.Test.YtomfhenoblfckaaDoorWGuard
import Derived.Test.YtomfhenoblfckaaDoorWNEv
import Derived.Test.YtomfhenoblfckaaDoorWMore
namespace Go.Proofs.YtomfhenoblfckaaDoor.PL
open Go.RowKit Go.Proofs.YtomfhenoblfckaaDoorW.PrintWords Go.Proofs.YtomfhenoblfckaaDoorW.PrintLast Go.Proofs.YtomfhenoblfckaaDoorW.PrintMore Go.Proofs.YtomfhenoblfckaaDoorW.WordsB Go.Proofs.YtomfhenoblfckaaDoorW.GlM
attribute [local go_sem] max2_int min2_int max_two min_two max_three min_three max_four min_four   -- for this text's walks alone
set_option linter.unusedVariables false
set_option linter.unusedSimpArgs false



def errW : Option Int → Value
  | none => .nilIface
  | some c => .iface 0 (.int .i64 c)
theorem errW_none : errW none = .nilIface := rfl
theorem errW_some (c : Int) : errW (some c) = .iface 0 (.int .i64 c) := rfl

theorem info5 : (Tryd.prog.info? 5).map (fun i => (i.zero, i.size, i.bytes)) = some (some (.int .u8 0), 1, 1) := by kernel_rfl
-- the values' own types

end Go.Proofs.YtomfhenoblfckaaDoor.PL
