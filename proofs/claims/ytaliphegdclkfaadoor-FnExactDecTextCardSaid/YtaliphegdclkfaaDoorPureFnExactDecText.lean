/- DecText of the program answers as the reference's does, for every decimal. No condition. -/
import Derived.Test.YtaliphegdclkfaaDoorPTx2
import Derived.Test.YtaliphegdclkfaaDoorPTx3
import Derived.Test.YtaliphegdclkfaaDoorTPDecZ
import Derived.Test.YtaliphegdclkfaaDoorTPDec
import Derived.Test.YtaliphegdclkfaaDoorTPBytes
import Derived.Test.YtaliphegdclkfaaDoorTPDecT
namespace Go.Proofs.YtaliphegdclkfaaDoor.Pure
open Go.RowKit Go.Proofs.YtaliphegdclkfaaDoor.PT Go.Proofs.YtaliphegdclkfaaDoorW.PrintWords Go.Proofs.YtaliphegdclkfaaDoorW.PrintLast
set_option linter.unusedVariables false
set_option linter.unusedSimpArgs false
theorem FnExactDecText : laws_FnExactDecText.Pure := by
  intro neg s sc hs _
  refine Ev.rounds (r := true) ?_
  unfold laws_FnExactDecText.f
  obtain ⟨t, ht, _, hsm⟩ := szDec_at neg s sc 1048576 (by omega) (by omega) hs
  rw [ht]
  simp only [Option.bind_some]
  by_cases c : t < 0
  · simp only [c, if_true]
    exact Ev.now _
  simp only [c, if_false, laws_toDec.f, Option.bind_some]
  refine Ev.bind (spec_DecText_ev neg s sc hs) (Ev.bind (impl_DecText_ev neg s sc hs) ?_)
  simp only [if_true]
  exact Ev.now _
end Go.Proofs.YtaliphegdclkfaaDoor.Pure
