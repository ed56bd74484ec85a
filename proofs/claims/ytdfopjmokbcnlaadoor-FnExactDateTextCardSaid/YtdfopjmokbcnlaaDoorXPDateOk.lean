import Derived.Test.YtdfopjmokbcnlaaDoorPXx1
import Derived.Test.YtdfopjmokbcnlaaDoorPXx3
import Derived.Test.YtdfopjmokbcnlaaDoorXPBase
import Derived.Test.YtdfopjmokbcnlaaDoorXPIn
namespace Go.Proofs.YtdfopjmokbcnlaaDoor.PX
open Go.RowKit Go.Proofs.YtdfopjmokbcnlaaDoorW.PrintWords
set_option linter.unusedVariables false
set_option linter.unusedSimpArgs false
/- What the printed functions on dates come to: plain arithmetic. -/
def leap (y : Int) : Bool := decide (Int.tmod y 4 = 0) && (!decide (Int.tmod y 100 = 0) || decide (Int.tmod y 400 = 0))
theorem spec_l5Leap_eq (y : Int) : spec_l5Leap.f y = some (leap y) := by
  unfold spec_l5Leap.f leap
  by_cases c : Int.tmod y 4 = 0
  · by_cases d : Int.tmod y 100 = 0
    · simp only [c, d, if_true, decide_true, Bool.true_and, Bool.not_true, Bool.false_or]; rfl
    · simp [c, d]
  · simp [c]
theorem impl_isLeap_eq (y : Int) : impl_isLeap.f y = some (leap y) := by
  unfold impl_isLeap.f leap
  by_cases c : Int.tmod y 4 = 0
  · by_cases d : Int.tmod y 100 = 0
    · simp only [c, d, if_true, decide_true, Bool.true_and, Bool.not_true, Bool.false_or]; rfl
    · simp [c, d]
  · simp [c]
def dim (y m : Int) : Int := if inR y 1 9999 = true ∧ inR m 1 12 = true then (if m = 2 then (if leap y = true then 29 else 28) else if m = 4 then 30 else if m = 6 then 30 else if m = 9 then 30 else if m = 11 then 30 else 31) else -1
theorem spec_DaysIn_at (k : Nat) (y m : Int) : spec_DaysIn.f (k + 1) y m = some (dim y m) := by
  unfold spec_DaysIn.f dim
  simp only [spec_l1In_eq, Option.bind_some]
  cases hy : inR y 1 9999 <;> cases hm : inR m 1 12 <;> simp only [spec_DaysIn.j0, Bool.not_true, Bool.not_false, if_true, if_false, Bool.false_eq_true, false_and, and_false, and_self, reduceCtorEq, ↓reduceIte]
  simp only [spec_l5Leap_eq, Option.bind_some]
  repeat' split
  all_goals first | rfl | contradiction
theorem spec_DaysIn_ev (y m : Int) : Ev (fun k => spec_DaysIn.f k y m) (dim y m) := Ev.later fun k => spec_DaysIn_at k y m
theorem impl_DaysIn_eq (y m : Int) : impl_DaysIn.f y m = some (dim y m) := by
  unfold impl_DaysIn.f dim impl_DaysIn.tab
  simp only [impl_in_eq, impl_isLeap_eq, Option.bind_some]
  cases hy : inR y 1 9999 <;> cases hm : inR m 1 12 <;> simp only [if_true, if_false, Bool.false_eq_true, false_and, and_false, and_self, reduceCtorEq, ↓reduceIte]
  by_cases h2 : m = 2
  · simp only [h2, if_true]
    split <;> rfl
  · simp only [h2, if_false]
    by_cases h4 : m = 4 <;> by_cases h6 : m = 6 <;> by_cases h9 : m = 9 <;> by_cases h11 : m = 11 <;> simp [h4, h6, h9, h11]
def dok (y mo d h mi s : Int) (z : Bool) (zo : Int) : Bool := inR y 1 9999 && (inR mo 1 12 && (inR d 1 (dim y mo) && (inR h 0 23 && (inR mi 0 59 && (inR s 0 59 && (inR zo (-840) 840 && (z || zo == 0)))))))
theorem spec_DateOk_at (k : Nat) (y mo d h mi s : Int) (z : Bool) (zo : Int) : spec_DateOk.f (k + 1) y mo d h mi s z zo = some (dok y mo d h mi s z zo) := by
  unfold spec_DateOk.f dok
  simp only [spec_l1In_eq, spec_DaysIn_at, Option.bind_some]
  cases inR y 1 9999 <;> cases inR mo 1 12 <;> cases inR d 1 (dim y mo) <;> cases inR h 0 23 <;> cases inR mi 0 59 <;> cases inR s 0 59 <;> cases inR zo (-840) 840 <;> cases z <;> simp
theorem spec_DateOk_ev (y mo d h mi s : Int) (z : Bool) (zo : Int) : Ev (fun k => spec_DateOk.f k y mo d h mi s z zo) (dok y mo d h mi s z zo) := Ev.later fun k => spec_DateOk_at k y mo d h mi s z zo
theorem dim_neg {y mo d : Int} (h : ¬ (inR y 1 9999 = true ∧ inR mo 1 12 = true)) : inR d 1 (dim y mo) = false := by
  unfold dim
  rw [if_neg h]
  simp [inR]
  omega
theorem impl_DateOk_eq (y mo d h mi s : Int) (z : Bool) (zo : Int) : impl_DateOk.f y mo d h mi s z zo = some (dok y mo d h mi s z zo) := by
  unfold impl_DateOk.f dok
  simp only [impl_in_eq, impl_DaysIn_eq, Option.bind_some]
  by_cases c : inR y 1 9999 = true ∧ inR mo 1 12 = true
  · rw [c.1, c.2]
    cases inR d 1 (dim y mo) <;> cases inR h 0 23 <;> cases inR mi 0 59 <;> cases inR s 0 59 <;> cases inR zo (-840) 840 <;> cases z <;> simp
  · rw [dim_neg c]
    simp
theorem inR_bd {a l h : Int} (c : inR a l h = true) : l ≤ a ∧ a ≤ h := inR_true.1 c
theorem dim_range (y m : Int) : -1 ≤ dim y m ∧ dim y m ≤ 31 := by
  unfold dim
  repeat' split
  all_goals omega
theorem dim_pos {y m : Int} (hy : 1 ≤ y ∧ y ≤ 9999) (hm : 1 ≤ m ∧ m ≤ 12) : 28 ≤ dim y m ∧ dim y m ≤ 31 := by
  have h1 : inR y 1 9999 = true := inR_true.2 hy
  have h2 : inR m 1 12 = true := inR_true.2 hm
  unfold dim
  rw [if_pos ⟨h1, h2⟩]
  repeat' split
  all_goals omega
theorem dok_parts {y mo d h mi s : Int} {z : Bool} {zo : Int} (c : dok y mo d h mi s z zo = true) :
    (1 ≤ y ∧ y ≤ 9999) ∧ (1 ≤ mo ∧ mo ≤ 12) ∧ (1 ≤ d ∧ d ≤ dim y mo) ∧ (0 ≤ h ∧ h ≤ 23) ∧ (0 ≤ mi ∧ mi ≤ 59) ∧ (0 ≤ s ∧ s ≤ 59) ∧ (-840 ≤ zo ∧ zo ≤ 840) ∧ (z = true ∨ zo = 0) := by
  unfold dok at c
  simp only [Bool.and_eq_true, Bool.or_eq_true, beq_iff_eq] at c
  obtain ⟨c1, c2, c3, c4, c5, c6, c7, c8⟩ := c
  exact ⟨inR_bd c1, inR_bd c2, inR_bd c3, inR_bd c4, inR_bd c5, inR_bd c6, inR_bd c7, c8⟩
end Go.Proofs.YtdfopjmokbcnlaaDoor.PX
