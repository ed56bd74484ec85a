import Derived.Test.YtomfhenoblfckaaDoorPTx1
import Derived.Test.YtomfhenoblfckaaDoorTPBase
namespace Go.Proofs.YtomfhenoblfckaaDoor.PT
open Go.RowKit Go.Proofs.YtomfhenoblfckaaDoorW.PrintWords
set_option linter.unusedVariables false
set_option linter.unusedSimpArgs false
theorem spec_l1In_eq (a l h : Int) : spec_l1In.f a l h = some (inR a l h) := by
  unfold spec_l1In.f inR
  by_cases c : a ≥ l
  · rw [if_pos c]; simp [show l ≤ a from c]
  · rw [if_neg c]; simp [show ¬ l ≤ a from c]
end Go.Proofs.YtomfhenoblfckaaDoor.PT
