/- How many days a year has. -/
import Derived.Test.YtdfopjmokbcnlaaPFx0
import Derived.Test.YtdfopjmokbcnlaaFPBase
import Derived.Test.YtdfopjmokbcnlaaFPIn
import Derived.Test.YtdfopjmokbcnlaaFPDates
namespace Go.Proofs.Ytdfopjmokbcnlaa.PF
open Go.RowKit Go.Proofs.YtdfopjmokbcnlaaW.PrintWords
set_option linter.unusedVariables false
set_option linter.unusedSimpArgs false
theorem daysB_mono {a b : Int} (h : a ≤ b) : daysB a ≤ daysB b := by
  unfold daysB
  omega
theorem daysB_below {y : Int} (h : 1 ≤ y) : daysB y ≤ 366 * (y - 1) := by
  unfold daysB
  omega
theorem daysB_last : daysB 10000 = 3652059 := by decide
theorem tmod_zero {y n : Int} (h : 0 ≤ y) : Int.tmod y n = y % n := Int.tmod_eq_emod_of_nonneg h
theorem year_long {y : Int} (h : 1 ≤ y) (h2 : y ≤ 9999) : sumD y 12 = daysB (y + 1) - daysB y := by
  have hy : inR y 1 9999 = true := inR_true.2 ⟨h, h2⟩
  have d1 : ∀ m : Int, 1 ≤ m → m ≤ 12 → dim y m = if m = 2 then (if leap y = true then 29 else 28) else if m = 4 then 30 else if m = 6 then 30 else if m = 9 then 30 else if m = 11 then 30 else 31 := by
    intro m a b
    unfold dim
    rw [if_pos ⟨hy, inR_true.2 ⟨a, b⟩⟩]
  have e : sumD y 12 = 337 + (if leap y = true then 29 else 28) := by
    show 0 + dim y 1 + dim y 2 + dim y 3 + dim y 4 + dim y 5 + dim y 6 + dim y 7 + dim y 8 + dim y 9 + dim y 10 + dim y 11 + dim y 12 = _
    rw [d1 1 (by omega) (by omega), d1 2 (by omega) (by omega), d1 3 (by omega) (by omega), d1 4 (by omega) (by omega), d1 5 (by omega) (by omega), d1 6 (by omega) (by omega), d1 7 (by omega) (by omega), d1 8 (by omega) (by omega), d1 9 (by omega) (by omega), d1 10 (by omega) (by omega), d1 11 (by omega) (by omega), d1 12 (by omega) (by omega)]
    simp only [Int.reduceEq, if_true, if_false]
    split <;> omega
  rw [e]
  unfold leap daysB
  rw [tmod_zero (by omega), tmod_zero (by omega), tmod_zero (by omega)]
  by_cases c1 : y % 4 = 0 <;> by_cases c2 : y % 100 = 0 <;> by_cases c3 : y % 400 = 0 <;> simp only [c1, c2, c3, decide_true, decide_false, Bool.not_true, Bool.not_false, Bool.or_true, Bool.or_false, Bool.and_true, Bool.and_false, Bool.true_and, Bool.false_and, Bool.true_or, Bool.false_or, Bool.false_eq_true, if_true, if_false] <;> omega
end Go.Proofs.Ytdfopjmokbcnlaa.PF
