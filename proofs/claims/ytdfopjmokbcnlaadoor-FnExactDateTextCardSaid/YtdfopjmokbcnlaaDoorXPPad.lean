/- A number's numeral with noughts ahead is its digits, two by two. -/
import Derived.Test.YtdfopjmokbcnlaaDoorPXx0
import Derived.Test.YtdfopjmokbcnlaaDoorXPBase
import Derived.Test.YtdfopjmokbcnlaaDoorXPIn
import Derived.Lib.ItoaNum
import Derived.Lib.Repeat
namespace Go.Proofs.YtdfopjmokbcnlaaDoor.PX
open Go.RowKit Go.Proofs.YtdfopjmokbcnlaaDoorW.PrintWords
set_option linter.unusedVariables false
set_option linter.unusedSimpArgs false
theorem digits_step {u : Nat} (h : ¬ u < 10) : Lib.decDigits u = Lib.decDigits (u / 10) ++ [UInt8.ofNat (48 + u % 10)] := by rw [Lib.decDigits, dif_neg h]
def two (n : Nat) : List UInt8 := [UInt8.ofNat (48 + n / 10 % 10), UInt8.ofNat (48 + n % 10)]
theorem pad2 {n : Nat} (h : n < 100) : Lib.repeatL [48] (2 - (Lib.decDigits n).length) ++ Lib.decDigits n = two n := by
  unfold two
  by_cases c : n < 10
  · rw [Lib.decDigits_one c, show n / 10 % 10 = 0 by omega, show n % 10 = n by omega]
    rfl
  · rw [Lib.decDigits_two c h, show n / 10 % 10 = n / 10 by omega]
    rfl
theorem pad4 {n : Nat} (h : n < 10000) : Lib.repeatL [48] (4 - (Lib.decDigits n).length) ++ Lib.decDigits n = two (n / 100) ++ two (n % 100) := by
  unfold two
  by_cases c : n < 10
  · rw [Lib.decDigits_one c, show n / 100 / 10 % 10 = 0 by omega, show n / 100 % 10 = 0 by omega, show n % 100 / 10 % 10 = 0 by omega, show n % 100 % 10 = n by omega]
    rfl
  by_cases c2 : n < 100
  · rw [Lib.decDigits_two c c2, show n / 100 / 10 % 10 = 0 by omega, show n / 100 % 10 = 0 by omega, show n % 100 / 10 % 10 = n / 10 by omega, show n % 100 % 10 = n % 10 by omega]
    rfl
  by_cases c3 : n < 1000
  · rw [digits_step c, Lib.decDigits_two (i := n / 10) (by omega) (by omega), show n / 100 / 10 % 10 = 0 by omega, show n / 100 % 10 = n / 10 / 10 by omega, show n % 100 / 10 % 10 = n / 10 % 10 by omega, show n % 100 % 10 = n % 10 by omega]
    rfl
  · rw [digits_step c, digits_step (u := n / 10) (by omega), Lib.decDigits_two (i := n / 10 / 10) (by omega) (by omega), show n / 100 / 10 % 10 = n / 10 / 10 / 10 by omega, show n / 100 % 10 = n / 10 / 10 % 10 by omega, show n % 100 / 10 % 10 = n / 10 % 10 by omega, show n % 100 % 10 = n % 10 by omega]
    rfl
end Go.Proofs.YtdfopjmokbcnlaaDoor.PX
