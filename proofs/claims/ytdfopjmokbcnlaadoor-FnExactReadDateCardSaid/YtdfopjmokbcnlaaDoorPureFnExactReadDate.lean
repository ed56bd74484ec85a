/- ReadDate of the program answers as the reference's does, for every text. No condition. -/
import Derived.Test.YtdfopjmokbcnlaaDoorPRx5
import Derived.Test.YtdfopjmokbcnlaaDoorRPReadDate
import Derived.Test.YtdfopjmokbcnlaaDoorRPReadDateB
namespace Go.Proofs.YtdfopjmokbcnlaaDoor.Pure
open Go.RowKit Go.Proofs.YtdfopjmokbcnlaaDoor.PR Go.Proofs.YtdfopjmokbcnlaaDoorW.PrintWords Go.Proofs.YtdfopjmokbcnlaaDoorW.PrintLast
set_option linter.unusedVariables false
set_option linter.unusedSimpArgs false
theorem FnExactReadDate : laws_FnExactReadDate.Pure := by
  intro a _
  refine Ev.rounds (r := true) ?_
  unfold laws_FnExactReadDate.f
  by_cases big : (a.size : Int) > 1048576
  · simp only [big, if_true]
    exact Ev.now _
  simp only [big, if_false]
  refine Ev.bind (spec_ReadDate_ev a (by omega)) (Ev.bind (impl_ReadDate_ev a (by omega)) ?_)
  simp only [eqDate_self, Option.bind_some, if_true, bne_self_eq_false, Bool.false_eq_true, if_false]
  exact Ev.now _
end Go.Proofs.YtdfopjmokbcnlaaDoor.Pure
