/- Split of the program answers as the reference's does, for every text. No condition. -/
import Derived.Test.YtomfhenoblfckaaPSx5
import Derived.Test.YtomfhenoblfckaaPSplit
namespace Go.Proofs.Ytomfhenoblfckaa.Pure
open Go.RowKit Go.Proofs.Ytomfhenoblfckaa.PS Go.Proofs.YtomfhenoblfckaaW.PrintWords Go.Proofs.YtomfhenoblfckaaW.PrintLast
set_option linter.unusedVariables false
set_option linter.unusedSimpArgs false
theorem FnExactSplit : laws_FnExactSplit.Pure := by
  intro s hs
  refine Ev.rounds (r := true) ?_
  unfold laws_FnExactSplit.f
  split
  · exact Ev.now _
  refine Ev.bind (spec_Split_ev s hs) (Ev.bind (impl_Split_ev s hs) ?_)
  simp only [if_true, bne_self_eq_false, Bool.false_eq_true, if_false]
  exact Ev.now _
end Go.Proofs.Ytomfhenoblfckaa.Pure
