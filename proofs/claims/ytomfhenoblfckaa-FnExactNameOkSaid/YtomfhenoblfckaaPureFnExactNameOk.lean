/- NameOk of the program answers as the reference's does, for every text. No condition. -/
import Derived.Test.YtomfhenoblfckaaPSx2
import Derived.Test.YtomfhenoblfckaaPNames
namespace Go.Proofs.Ytomfhenoblfckaa.Pure
open Go.RowKit Go.Proofs.Ytomfhenoblfckaa.PS Go.Proofs.YtomfhenoblfckaaW.PrintWords Go.Proofs.YtomfhenoblfckaaW.PrintLast
set_option linter.unusedVariables false
set_option linter.unusedSimpArgs false
theorem FnExactNameOk : laws_FnExactNameOk.Pure := by
  intro s hs
  refine Ev.rounds (r := true) ?_
  unfold laws_FnExactNameOk.f
  split
  · exact Ev.now _
  refine Ev.bind (spec_NameOk_ev s hs) (Ev.bind (impl_NameOk_ev s hs) ?_)
  simp only [bne_self_eq_false, Bool.false_eq_true, if_false]
  exact Ev.now _
end Go.Proofs.Ytomfhenoblfckaa.Pure
