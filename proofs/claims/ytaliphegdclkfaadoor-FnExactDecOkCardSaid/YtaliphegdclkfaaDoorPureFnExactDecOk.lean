/- DecOk of the program answers as the reference's does, for every decimal. No condition. -/
import Derived.Test.YtaliphegdclkfaaDoorPDx2
import Derived.Test.YtaliphegdclkfaaDoorDPDec
namespace Go.Proofs.YtaliphegdclkfaaDoor.Pure
open Go.RowKit Go.Proofs.YtaliphegdclkfaaDoor.PD Go.Proofs.YtaliphegdclkfaaDoorW.PrintWords Go.Proofs.YtaliphegdclkfaaDoorW.PrintLast
set_option linter.unusedVariables false
set_option linter.unusedSimpArgs false
theorem FnExactDecOk : laws_FnExactDecOk.Pure := by
  intro neg s sc hs _
  refine Ev.rounds (r := true) ?_
  unfold laws_FnExactDecOk.f
  obtain ⟨t, ht, _, hsm⟩ := szDec_at neg s sc 1048576 (by omega) (by omega) hs
  rw [ht]
  simp only [Option.bind_some]
  by_cases c : t < 0
  · simp only [c, if_true]
    exact Ev.now _
  simp only [c, if_false, laws_toDec.f, Option.bind_some]
  refine Ev.bind (spec_DecOk_ev neg s sc hs) ?_
  rw [impl_DecOk_eq neg s sc hs]
  simp only [Option.bind_some, bne_self_eq_false, Bool.false_eq_true, if_false]
  exact Ev.now _
end Go.Proofs.YtaliphegdclkfaaDoor.Pure
