/- TimesDec of the program answers as the reference's does, for every pair of decimals. No condition. -/
import Derived.Test.YtaliphegdclkfaaDoorPZx2
import Derived.Test.YtaliphegdclkfaaDoorPZx8
import Derived.Test.YtaliphegdclkfaaDoorZPDec
import Derived.Test.YtaliphegdclkfaaDoorZPDecN
import Derived.Test.YtaliphegdclkfaaDoorZPDecZ
import Derived.Test.YtaliphegdclkfaaDoorZPTimesS
namespace Go.Proofs.YtaliphegdclkfaaDoor.Pure
open Go.RowKit Go.Proofs.YtaliphegdclkfaaDoor.PZ Go.Proofs.YtaliphegdclkfaaDoorW.PrintWords Go.Proofs.YtaliphegdclkfaaDoorW.PrintLast
set_option linter.unusedVariables false
set_option linter.unusedSimpArgs false
theorem FnExactTimesDec : laws_FnExactTimesDec.Pure := by
  intro a x i b y j hx hi hy hj
  refine Ev.rounds (r := true) ?_
  unfold laws_FnExactTimesDec.f
  obtain ⟨t, ht, _, hsm⟩ := szDec_at a x i 1048576 (by omega) (by omega) hx
  rw [ht]
  simp only [Option.bind_some]
  by_cases c : t < 0
  · simp only [c, if_true]
    exact Ev.now _
  obtain ⟨u, hu, _, hsu⟩ := szDec_at b y j t (by omega) (by omega) hy
  simp only [c, if_false, hu, Option.bind_some]
  by_cases d : u < 0
  · simp only [d, if_true]
    exact Ev.now _
  simp only [d, if_false, laws_toDec.f, Option.bind_some]
  obtain ⟨r, h1, h2⟩ := times_ev a x i b y j hx hy
  refine Ev.bind h1 (Ev.bind h2 ?_)
  rw [eqDec_self]
  simp only [Option.bind_some, if_true, bne_self_eq_false, Bool.false_eq_true, if_false]
  exact Ev.now _
end Go.Proofs.YtaliphegdclkfaaDoor.Pure
