/- Lines of the program answers as the reference's does, for every text. No condition. -/
import Derived.Test.YtomfhenoblfckaaDoorPLx1
import Derived.Test.YtomfhenoblfckaaDoorLPLines
namespace Go.Proofs.YtomfhenoblfckaaDoor.Pure
open Go.RowKit Go.Proofs.YtomfhenoblfckaaDoor.PL Go.Proofs.YtomfhenoblfckaaDoorW.PrintWords Go.Proofs.YtomfhenoblfckaaDoorW.PrintLast
set_option linter.unusedVariables false
set_option linter.unusedSimpArgs false
theorem FnExactLines : laws_FnExactLines.Pure := by
  intro a0 _
  refine Ev.rounds (r := true) ?_
  unfold laws_FnExactLines.f
  split
  · exact Ev.now _
  have hs : a0.size ≤ 1048576 := by omega
  refine Ev.bind (spec_Lines_ev a0 hs) ?_
  refine Ev.const fun k => ?_
  rw [impl_Lines_eq a0 hs, Option.bind_some, if_pos rfl]
end Go.Proofs.YtomfhenoblfckaaDoor.Pure
