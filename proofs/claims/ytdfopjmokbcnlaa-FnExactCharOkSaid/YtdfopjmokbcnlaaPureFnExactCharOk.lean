/- CharOk of the program answers as the reference's does, for every whole number. No condition. -/
import Derived.Test.YtdfopjmokbcnlaaPSx1
import Derived.Test.YtdfopjmokbcnlaaPDates
namespace Go.Proofs.Ytdfopjmokbcnlaa.Pure
open Go.RowKit Go.Proofs.Ytdfopjmokbcnlaa.PS Go.Proofs.YtdfopjmokbcnlaaW.PrintWords Go.Proofs.YtdfopjmokbcnlaaW.PrintLast
set_option linter.unusedVariables false
set_option linter.unusedSimpArgs false
theorem FnExactCharOk : laws_FnExactCharOk.Pure := by
  intro a0 _
  unfold laws_FnExactCharOk.f spec_CharOk.f impl_CharOk.f
  simp only [spec_l1In_eq, impl_in_eq, Option.bind_some]
  by_cases c1 : a0 = 9
  · simp [c1]
  by_cases c2 : a0 = 10
  · simp [c2]
  by_cases c3 : a0 = 13
  · simp [c3]
  simp only [c1, c2, c3, if_false]
  cases h1 : inR a0 32 55295 <;> cases h2 : inR a0 57344 65533 <;> cases h3 : inR a0 65536 1114111 <;> simp
end Go.Proofs.Ytdfopjmokbcnlaa.Pure
