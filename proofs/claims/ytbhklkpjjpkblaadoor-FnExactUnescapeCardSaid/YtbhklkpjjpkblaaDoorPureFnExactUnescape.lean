/- Unescape of the program answers as the reference's does, for every text. No condition. -/
import Derived.Test.YtbhklkpjjpkblaaDoorPUx5
import Derived.Test.YtbhklkpjjpkblaaDoorUPUnL
import Derived.Test.YtbhklkpjjpkblaaDoorUPUnS
import Derived.Test.YtbhklkpjjpkblaaDoorUPUnI
namespace Go.Proofs.YtbhklkpjjpkblaaDoor.Pure
open Go.RowKit Go.Proofs.YtbhklkpjjpkblaaDoor.PU Go.Proofs.YtbhklkpjjpkblaaDoorW.PrintWords Go.Proofs.YtbhklkpjjpkblaaDoorW.PrintLast
set_option linter.unusedVariables false
set_option linter.unusedSimpArgs false
theorem FnExactUnescape : laws_FnExactUnescape.Pure := by
  intro a0 h0
  apply Ev.rounds
  unfold laws_FnExactUnescape.f
  by_cases c : (a0.size : Int) > 1048576
  · simp only [c, if_true]
    exact Ev.now _
  · simp only [c, if_false]
    obtain ⟨h1, h2⟩ := unescape_ev a0 (by omega)
    refine Ev.bind h1 (Ev.bind h2 ?_)
    simp only [if_true, bne_self_eq_false, Bool.false_eq_true, if_false]
    exact Ev.now _
end Go.Proofs.YtbhklkpjjpkblaaDoor.Pure
