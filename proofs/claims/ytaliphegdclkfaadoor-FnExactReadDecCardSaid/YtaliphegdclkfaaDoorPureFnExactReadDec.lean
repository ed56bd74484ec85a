/- ReadDec of the program answers as the reference's does, for every text. No condition. -/
import Derived.Test.YtaliphegdclkfaaDoorPNx6
import Derived.Test.YtaliphegdclkfaaDoorNPDec
import Derived.Test.YtaliphegdclkfaaDoorNPDecN
import Derived.Test.YtaliphegdclkfaaDoorNPDecR
namespace Go.Proofs.YtaliphegdclkfaaDoor.Pure
open Go.RowKit Go.Proofs.YtaliphegdclkfaaDoor.PN Go.Proofs.YtaliphegdclkfaaDoorW.PrintWords Go.Proofs.YtaliphegdclkfaaDoorW.PrintLast
set_option linter.unusedVariables false
set_option linter.unusedSimpArgs false
theorem FnExactReadDec : laws_FnExactReadDec.Pure := by
  intro s hs
  refine Ev.rounds (r := true) ?_
  unfold laws_FnExactReadDec.f
  split
  · exact Ev.now _
  refine Ev.bind (spec_ReadDec_ev s hs) (Ev.bind (impl_ReadDec_ev s hs) ?_)
  rw [eqDec_self]
  simp only [Option.bind_some, if_true, bne_self_eq_false, Bool.false_eq_true, if_false]
  exact Ev.now _
end Go.Proofs.YtaliphegdclkfaaDoor.Pure
