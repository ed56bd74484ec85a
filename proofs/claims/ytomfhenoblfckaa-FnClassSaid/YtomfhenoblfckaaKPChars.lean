import Derived.Test.YtomfhenoblfckaaPKx1
import Derived.Test.YtomfhenoblfckaaPKx3
import Derived.Test.YtomfhenoblfckaaKPBase
import Derived.Test.YtomfhenoblfckaaKPIn
namespace Go.Proofs.Ytomfhenoblfckaa.PK
open Go.RowKit Go.Proofs.YtomfhenoblfckaaW.PrintWords
set_option linter.unusedVariables false
set_option linter.unusedSimpArgs false
def isChar (r : Int) : Bool := inR r 0 55295 || inR r 57344 1114111
theorem spec_l1Char_eq (r : Int) : spec_l1Char.f r = some (isChar r) := by
  unfold spec_l1Char.f isChar
  simp only [spec_l1In_eq, Option.bind_some]
  cases inR r 0 55295 <;> simp
theorem impl_isRune_eq (r : Int) : impl_isRune.f r = some (isChar r) := by
  unfold impl_isRune.f isChar
  simp only [impl_in_eq, Option.bind_some]
  cases inR r 0 55295 <;> simp
theorem isChar_range {r : Int} (h : isChar r = true) : (0 ≤ r ∧ r ≤ 55295) ∨ (57344 ≤ r ∧ r ≤ 1114111) := by
  unfold isChar inR at h
  simpa using h
end Go.Proofs.Ytomfhenoblfckaa.PK
