/- TotalDigits of the program answers as the reference's does, for every decimal. No condition. -/
import Derived.Test.YtaliphegdclkfaaDoorPDx2
import Derived.Test.YtaliphegdclkfaaDoorPDx3
import Derived.Test.YtaliphegdclkfaaDoorDPDec
namespace Go.Proofs.YtaliphegdclkfaaDoor.Pure
open Go.RowKit Go.Proofs.YtaliphegdclkfaaDoor.PD Go.Proofs.YtaliphegdclkfaaDoorW.PrintWords Go.Proofs.YtaliphegdclkfaaDoorW.PrintLast Go.Proofs.YtaliphegdclkfaaDoorW.PrintMore
set_option linter.unusedVariables false
set_option linter.unusedSimpArgs false
theorem FnExactTotalDigits : laws_FnExactTotalDigits.Pure := by
  intro neg s sc hs _
  refine Ev.rounds (r := true) ?_
  unfold laws_FnExactTotalDigits.f spec_TotalDigits.f impl_TotalDigits.f
  obtain ⟨t, ht, _, hsm⟩ := szDec_at neg s sc 1048576 (by omega) (by omega) hs
  rw [ht]
  simp only [Option.bind_some]
  by_cases c : t < 0
  · simp only [c, if_true]
    exact Ev.now _
  simp only [c, if_false, laws_toDec.f, Option.bind_some, impl_DecOk_eq neg s sc hs]
  refine Ev.bind (a := if decOkF neg s sc = true then mx 1 (s.size : Int) else -1) ?_ ?_
  · refine Ev.bind (spec_DecOk_ev neg s sc hs) ?_
    cases decOkF neg s sc <;> exact Ev.now _
  · cases decOkF neg s sc
    · exact Ev.now _
    · simp only [if_true, Option.bind_some, mx_comm' (s.size : Int) 1]
      exact Ev.now _
end Go.Proofs.YtaliphegdclkfaaDoor.Pure
