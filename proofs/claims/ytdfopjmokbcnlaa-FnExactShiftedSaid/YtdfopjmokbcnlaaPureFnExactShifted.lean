/- Shifted of the program answers as the reference's does, for every date and zone. No condition. -/
import Derived.Test.YtdfopjmokbcnlaaPHx1
import Derived.Test.YtdfopjmokbcnlaaPHx5
import Derived.Test.YtdfopjmokbcnlaaHPDates
import Derived.Test.YtdfopjmokbcnlaaHPShift
namespace Go.Proofs.Ytdfopjmokbcnlaa.Pure
open Go.RowKit Go.Proofs.Ytdfopjmokbcnlaa.PH Go.Proofs.YtdfopjmokbcnlaaW.PrintWords Go.Proofs.YtdfopjmokbcnlaaW.PrintLast
set_option linter.unusedVariables false
set_option linter.unusedSimpArgs false
theorem FnExactShifted : laws_FnExactShifted.Pure := by
  intro y mo d h mi s z zo a1 _ _ _ _ _ _ _ _
  refine Ev.rounds (r := true) ?_
  unfold laws_FnExactShifted.f laws_toDate.f
  simp only [Option.bind_some]
  refine Ev.bind (spec_Shifted_ev y mo d h mi s z zo a1) (Ev.bind (impl_Shifted_ev y mo d h mi s z zo a1) ?_)
  rw [eqDate_self]
  simp only [Option.bind_some, if_true, bne_self_eq_false, Bool.false_eq_true, if_false]
  exact Ev.now _
end Go.Proofs.Ytdfopjmokbcnlaa.Pure
