import Derived.Test.YtaliphegdclkfaaPLx2
import Derived.Test.YtaliphegdclkfaaPLx5
import Derived.Test.YtaliphegdclkfaaLPBase
namespace Go.Proofs.Ytaliphegdclkfaa.PL
open Go.RowKit Go.Proofs.YtaliphegdclkfaaW.PrintWords
set_option linter.unusedVariables false
set_option linter.unusedSimpArgs false
theorem spec_l1In_eq (a l h : Int) : spec_l1In.f a l h = some (inR a l h) := by
  unfold spec_l1In.f inR
  by_cases c : a ≥ l
  · rw [if_pos c]; simp [show l ≤ a from c]
  · rw [if_neg c]; simp [show ¬ l ≤ a from c]
theorem impl_in_eq (a l h : Int) : impl_in.f a l h = some (inR a l h) := by
  unfold impl_in.f inR
  by_cases c : l ≤ a
  · rw [if_pos c]; simp [c]
  · rw [if_neg c]; simp [c]
end Go.Proofs.Ytaliphegdclkfaa.PL
