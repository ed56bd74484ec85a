/- Runes of the program answers as the reference's does, for every text, and its list is its own. No condition. -/
import Derived.Test.YtomfhenoblfckaaDoorPRx2
import Derived.Test.YtomfhenoblfckaaDoorRPRunes
import Derived.Test.YtomfhenoblfckaaDoorRPMarks
import Derived.Test.YtomfhenoblfckaaDoorRPEqInts
namespace Go.Proofs.YtomfhenoblfckaaDoor.Pure
open Go.RowKit Go.Proofs.YtomfhenoblfckaaDoor.PR Go.Proofs.YtomfhenoblfckaaDoorW.PrintWords Go.Proofs.YtomfhenoblfckaaDoorW.PrintLast
set_option linter.unusedVariables false
set_option linter.unusedSimpArgs false
theorem FnExactRunes : laws_FnExactRunes.Pure := by
  intro a _
  refine Ev.rounds (r := true) ?_
  unfold laws_FnExactRunes.f
  by_cases big : (a.size : Int) > 1048576
  · simp only [big, if_true]
    exact Ev.now _
  simp only [big, if_false]
  have hl := runesOf_length a
  have he := eqInt64S_self (runesOf a).1 (by omega)
  refine Ev.bind (spec_Runes_ev a) ?_
  simp only [impl_Runes_eq, Option.bind_some]
  refine Ev.bind he ?_
  simp only [if_true, bne_self_eq_false]
  refine Ev.step (f := ?fa) (fun k => ?a) ?b
  case a => simp only [laws_FnExactRunes.j0, Bool.false_eq_true, if_false]; rfl
  case b =>
    refine Ev.bind (markInt64S_ev _ (by omega)) (Ev.bind (heldInt64S_ev _ (by omega)) ?_)
    have q : ¬ (((runesOf a).1.length : Int) + 1 < 0) := by omega
    simp only [q, if_false, if_true, impl_Runes_eq, Option.bind_some]
    refine Ev.bind he ?_
    simp only [if_true, bne_self_eq_false]
    refine Ev.step (f := ?fc) (fun k => ?c) ?d
    case c => simp only [laws_FnExactRunes.j1, Bool.false_eq_true, if_false]; rfl
    case d =>
      refine Ev.bind (heldInt64S_ev _ (by omega)) ?_
      simp only [q, if_false, if_true]
      exact Ev.now _
end Go.Proofs.YtomfhenoblfckaaDoor.Pure
