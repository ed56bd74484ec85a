/- Escape of the program answers as the reference's does, for every text and flag. No condition. -/
import Derived.Test.YtbhklkpjjpkblaaDoorPEx3
import Derived.Test.YtbhklkpjjpkblaaDoorEPEsc
namespace Go.Proofs.YtbhklkpjjpkblaaDoor.Pure
open Go.RowKit Go.Proofs.YtbhklkpjjpkblaaDoor.PE Go.Proofs.YtbhklkpjjpkblaaDoorW.PrintWords Go.Proofs.YtbhklkpjjpkblaaDoorW.PrintLast
set_option linter.unusedVariables false
set_option linter.unusedSimpArgs false
theorem FnExactEscape : laws_FnExactEscape.Pure := by
  intro a0 a1 h0
  apply Ev.rounds
  unfold laws_FnExactEscape.f
  by_cases c : (a0.size : Int) > 1048576
  · simp only [c, if_true]
    exact Ev.now _
  · simp only [c, if_false]
    obtain ⟨r, h1, h2⟩ := escape_ev a0 a1
    refine Ev.bind h1 (Ev.bind h2 ?_)
    simp only [if_true, bne_self_eq_false, Bool.false_eq_true, if_false]
    exact Ev.now _
end Go.Proofs.YtbhklkpjjpkblaaDoor.Pure
