/- DaysIn of the program answers as the reference's does, for every year and month. No condition. -/
import Derived.Test.YtdfopjmokbcnlaaPSx1
import Derived.Test.YtdfopjmokbcnlaaPDates
namespace Go.Proofs.Ytdfopjmokbcnlaa.Pure
open Go.RowKit Go.Proofs.Ytdfopjmokbcnlaa.PS Go.Proofs.YtdfopjmokbcnlaaW.PrintWords Go.Proofs.YtdfopjmokbcnlaaW.PrintLast
set_option linter.unusedVariables false
set_option linter.unusedSimpArgs false
theorem FnExactDaysIn : laws_FnExactDaysIn.Pure := by
  intro a0 a1 _ _
  refine ⟨1, ?_⟩
  unfold laws_FnExactDaysIn.f
  simp only [spec_DaysIn_at 0, impl_DaysIn_eq, Option.bind_some, if_true]
end Go.Proofs.Ytdfopjmokbcnlaa.Pure
