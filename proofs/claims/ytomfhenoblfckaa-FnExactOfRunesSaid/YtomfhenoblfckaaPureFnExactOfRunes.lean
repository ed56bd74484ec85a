/- OfRunes of the program answers as the reference's does, for every list of whole numbers. No condition. -/
import Derived.Test.YtomfhenoblfckaaPSx3
import Derived.Test.YtomfhenoblfckaaPSx4
import Derived.Test.YtomfhenoblfckaaPOfRunes
namespace Go.Proofs.Ytomfhenoblfckaa.Pure
open Go.RowKit Go.Proofs.Ytomfhenoblfckaa.PS Go.Proofs.YtomfhenoblfckaaW.PrintWords Go.Proofs.YtomfhenoblfckaaW.PrintLast
set_option linter.unusedVariables false
set_option linter.unusedSimpArgs false
theorem FnExactOfRunes : laws_FnExactOfRunes.Pure := by
  intro l _ hl _
  refine Ev.rounds (r := true) ?_
  unfold laws_FnExactOfRunes.f
  split
  · exact Ev.now _
  have hlen : l.length ≤ 35184372088832 := by omega
  refine Ev.bind (toInt64S_ev l hlen) (Ev.bind (spec_OfRunes_ev l hlen) (Ev.bind (toInt64S_ev l hlen) (Ev.bind (impl_OfRunes_ev l hlen) ?_)))
  simp only [if_true, bne_self_eq_false]
  refine Ev.step (f := fun k => (laws_toInt64S.f k l).bind fun t => (laws_eqInt64S.f k l t).bind fun u => if u = true then some true else some false) (fun k => by simp only [laws_FnExactOfRunes.j0, Bool.false_eq_true, if_false]) ?_
  refine Ev.bind (toInt64S_ev l hlen) (Ev.bind (eqInt64S_self l (by omega)) ?_)
  simp only [if_true]
  exact Ev.now _
end Go.Proofs.Ytomfhenoblfckaa.Pure
