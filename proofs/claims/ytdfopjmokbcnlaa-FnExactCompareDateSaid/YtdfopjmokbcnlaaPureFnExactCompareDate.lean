/- CompareDate of the program answers as the reference's does, for every two dates. No condition. -/
import Derived.Test.YtdfopjmokbcnlaaPSx2
import Derived.Test.YtdfopjmokbcnlaaPSx6
import Derived.Test.YtdfopjmokbcnlaaPDates
namespace Go.Proofs.Ytdfopjmokbcnlaa.Pure
open Go.RowKit Go.Proofs.Ytdfopjmokbcnlaa.PS Go.Proofs.YtdfopjmokbcnlaaW.PrintWords Go.Proofs.YtdfopjmokbcnlaaW.PrintLast
set_option linter.unusedVariables false
set_option linter.unusedSimpArgs false
theorem FnExactCompareDate : laws_FnExactCompareDate.Pure := by
  intro y mo d h mi s z zo y' mo' d' h' mi' s' z' zo' _ _ _ _ _ _ _ _ _ _ _ _ _ _
  refine Ev.rounds (r := true) ?_
  unfold laws_FnExactCompareDate.f laws_toDate.f
  simp only [Option.bind_some]
  refine Ev.bind (spec_CompareDate_ev y mo d h mi s z zo y' mo' d' h' mi' s' z' zo') (Ev.bind (impl_CompareDate_ev y mo d h mi s z zo y' mo' d' h' mi' s' z' zo') ?_)
  simp only [if_true]
  exact Ev.now _
end Go.Proofs.Ytdfopjmokbcnlaa.Pure
