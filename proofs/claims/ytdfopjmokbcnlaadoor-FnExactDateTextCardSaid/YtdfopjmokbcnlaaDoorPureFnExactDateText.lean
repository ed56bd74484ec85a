/- DateText of the program answers as the reference's does, for every date. No condition. -/
import Derived.Test.YtdfopjmokbcnlaaDoorPXx3
import Derived.Test.YtdfopjmokbcnlaaDoorPXx5
import Derived.Test.YtdfopjmokbcnlaaDoorXPDateText
import Derived.Test.YtdfopjmokbcnlaaDoorXPDateTextB
namespace Go.Proofs.YtdfopjmokbcnlaaDoor.Pure
open Go.RowKit Go.Proofs.YtdfopjmokbcnlaaDoor.PX Go.Proofs.YtdfopjmokbcnlaaDoorW.PrintWords Go.Proofs.YtdfopjmokbcnlaaDoorW.PrintLast
set_option linter.unusedVariables false
set_option linter.unusedSimpArgs false
theorem toDate_eq (y mo d h mi s : Int) (z : Bool) (zo : Int) : laws_toDate.f y mo d h mi s z zo = some (y, mo, d, h, mi, s, z, zo) := rfl
theorem FnExactDateText : laws_FnExactDateText.Pure := by
  intro y mo d h mi s z zo _ _ _ _ _ _ _
  obtain ⟨r, h1, h2⟩ := date_text 0 y mo d h mi s z zo
  refine ⟨1, ?_⟩
  unfold laws_FnExactDateText.f
  simp only [toDate_eq, Option.bind_some]
  rw [h1]
  simp only [Option.bind_some]
  rw [h2]
  simp only [Option.bind_some, if_true]
end Go.Proofs.YtdfopjmokbcnlaaDoor.Pure
