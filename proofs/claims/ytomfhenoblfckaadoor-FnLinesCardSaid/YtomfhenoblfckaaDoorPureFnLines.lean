/- Behind Lines a text has no carriage return, is as it was when it had none, and once more changes nothing, for every drawn text. No condition. -/
import Derived.Test.YtomfhenoblfckaaDoorPMx1
import Derived.Test.YtomfhenoblfckaaDoorPMx2
import Derived.Test.YtomfhenoblfckaaDoorMPLinesD
namespace Go.Proofs.YtomfhenoblfckaaDoor.Pure
open Go.RowKit Go.Proofs.YtomfhenoblfckaaDoor.PM Go.Proofs.YtomfhenoblfckaaDoorW.PrintWords Go.Proofs.YtomfhenoblfckaaDoorW.PrintLast
set_option linter.unusedVariables false
set_option linter.unusedSimpArgs false
theorem FnLines : laws_FnLines.Pure := by
  intro l hl hw
  refine Ev.rounds (r := true) ?_
  unfold laws_FnLines.f laws_big.f
  simp only [Option.bind_some]
  by_cases c : (l.length : Int) > 1048576
  · simp only [c, decide_true, if_true]
    exact Ev.now _
  simp only [c, decide_false, Bool.false_eq_true, if_false]
  obtain ⟨s, hs, hd⟩ := DrawLines_ev (Rd.start hl hw)
  have hz := lineB_size s
  refine Ev.bind hd ?_
  refine Ev.congr (f := fun k => (spec_Lines.f k s).bind fun t137 => if (lineB s).toList = t137.toList then laws_FnLines.j0 k s (lineB s) false else laws_FnLines.j0 k s (lineB s) true) (fun k => ?_) ?_
  · rw [impl_Lines_eq s (by omega), Option.bind_some, impl_Lines_eq (lineB s) (by omega), Option.bind_some, lineB_again, if_pos rfl]
    have hc : decide (((lineB s).size : Int) > (s.size : Int)) = false := decide_eq_false (by omega)
    rw [hc]
  refine Ev.bind (spec_Lines_ev s (by omega)) ?_
  simp only [if_true]
  refine Ev.step (f := fun k => laws_FnLines.l0 k s (lineB s) false ((0 : Nat) : Int)) (fun k => by rw [laws_FnLines.j0, if_neg (by decide)]; rfl) ?_
  exact l0_ev s (by omega) s.size 0 false (by omega) (Or.inr fun i hi => absurd hi (by omega))
end Go.Proofs.YtomfhenoblfckaaDoor.Pure
