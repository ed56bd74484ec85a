/- DateOk of the program answers as the reference's does, for every date. No condition. -/
import Derived.Test.YtdfopjmokbcnlaaPSx2
import Derived.Test.YtdfopjmokbcnlaaPDates
namespace Go.Proofs.Ytdfopjmokbcnlaa.Pure
open Go.RowKit Go.Proofs.Ytdfopjmokbcnlaa.PS Go.Proofs.YtdfopjmokbcnlaaW.PrintWords Go.Proofs.YtdfopjmokbcnlaaW.PrintLast
set_option linter.unusedVariables false
set_option linter.unusedSimpArgs false
theorem FnExactDateOk : laws_FnExactDateOk.Pure := by
  intro y mo d h mi s z zo _ _ _ _ _ _ _
  refine ⟨1, ?_⟩
  unfold laws_FnExactDateOk.f laws_toDate.f
  simp only [spec_DateOk_at 0, impl_DateOk_eq, Option.bind_some]
  simp
end Go.Proofs.Ytdfopjmokbcnlaa.Pure
