import Derived.Test.YtdfopjmokbcnlaaPVx1
import Derived.Test.YtdfopjmokbcnlaaVPBase
import Derived.Test.YtdfopjmokbcnlaaVPIn
import Derived.Test.YtdfopjmokbcnlaaVPDates
namespace Go.Proofs.Ytdfopjmokbcnlaa.PV
open Go.RowKit Go.Proofs.YtdfopjmokbcnlaaW.PrintWords
set_option linter.unusedVariables false
set_option linter.unusedSimpArgs false
/- Seconds of dates. -/
def sof (y mo d h mi s : Int) (z : Bool) (zo : Int) : Int := if dok y mo d h mi s z zo = true then secs y mo d h mi s zo else -1
theorem impl_SecondsOf_ev (y mo d h mi s : Int) (z : Bool) (zo : Int) : Ev (fun k => impl_SecondsOf.f k y mo d h mi s z zo) (sof y mo d h mi s z zo) := by
  unfold impl_SecondsOf.f sof
  simp only [impl_DateOk_eq, Option.bind_some]
  by_cases c : dok y mo d h mi s z zo = true
  · simp only [c, if_true]
    exact Ev.bind (impl_Date_seconds_ev c) (Ev.now _)
  · simp only [c, if_false]
    exact Ev.now _
end Go.Proofs.Ytdfopjmokbcnlaa.PV
