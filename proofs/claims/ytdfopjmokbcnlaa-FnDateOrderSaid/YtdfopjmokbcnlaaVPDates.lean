import Derived.Test.YtdfopjmokbcnlaaPVx1
import Derived.Test.YtdfopjmokbcnlaaPVx2
import Derived.Test.YtdfopjmokbcnlaaVPBase
import Derived.Test.YtdfopjmokbcnlaaVPIn
namespace Go.Proofs.Ytdfopjmokbcnlaa.PV
open Go.RowKit Go.Proofs.YtdfopjmokbcnlaaW.PrintWords
set_option linter.unusedVariables false
set_option linter.unusedSimpArgs false
/- What the printed functions on dates come to: plain arithmetic. -/
def leap (y : Int) : Bool := decide (Int.tmod y 4 = 0) && (!decide (Int.tmod y 100 = 0) || decide (Int.tmod y 400 = 0))
theorem spec_l5Leap_eq (y : Int) : spec_l5Leap.f y = some (leap y) := by
  unfold spec_l5Leap.f leap
  by_cases c : Int.tmod y 4 = 0
  · by_cases d : Int.tmod y 100 = 0
    · simp only [c, d, if_true, decide_true, Bool.true_and, Bool.not_true, Bool.false_or]; rfl
    · simp [c, d]
  · simp [c]
theorem impl_isLeap_eq (y : Int) : impl_isLeap.f y = some (leap y) := by
  unfold impl_isLeap.f leap
  by_cases c : Int.tmod y 4 = 0
  · by_cases d : Int.tmod y 100 = 0
    · simp only [c, d, if_true, decide_true, Bool.true_and, Bool.not_true, Bool.false_or]; rfl
    · simp [c, d]
  · simp [c]
def dim (y m : Int) : Int := if inR y 1 9999 = true ∧ inR m 1 12 = true then (if m = 2 then (if leap y = true then 29 else 28) else if m = 4 then 30 else if m = 6 then 30 else if m = 9 then 30 else if m = 11 then 30 else 31) else -1
theorem spec_DaysIn_at (k : Nat) (y m : Int) : spec_DaysIn.f (k + 1) y m = some (dim y m) := by
  unfold spec_DaysIn.f dim
  simp only [spec_l1In_eq, Option.bind_some]
  cases hy : inR y 1 9999 <;> cases hm : inR m 1 12 <;> simp only [spec_DaysIn.j0, Bool.not_true, Bool.not_false, if_true, if_false, Bool.false_eq_true, false_and, and_false, and_self, reduceCtorEq, ↓reduceIte]
  simp only [spec_l5Leap_eq, Option.bind_some]
  repeat' split
  all_goals first | rfl | contradiction
theorem spec_DaysIn_ev (y m : Int) : Ev (fun k => spec_DaysIn.f k y m) (dim y m) := Ev.later fun k => spec_DaysIn_at k y m
theorem impl_DaysIn_eq (y m : Int) : impl_DaysIn.f y m = some (dim y m) := by
  unfold impl_DaysIn.f dim impl_DaysIn.tab
  simp only [impl_in_eq, impl_isLeap_eq, Option.bind_some]
  cases hy : inR y 1 9999 <;> cases hm : inR m 1 12 <;> simp only [if_true, if_false, Bool.false_eq_true, false_and, and_false, and_self, reduceCtorEq, ↓reduceIte]
  by_cases h2 : m = 2
  · simp only [h2, if_true]
    split <;> rfl
  · simp only [h2, if_false]
    by_cases h4 : m = 4 <;> by_cases h6 : m = 6 <;> by_cases h9 : m = 9 <;> by_cases h11 : m = 11 <;> simp [h4, h6, h9, h11]
def dok (y mo d h mi s : Int) (z : Bool) (zo : Int) : Bool := inR y 1 9999 && (inR mo 1 12 && (inR d 1 (dim y mo) && (inR h 0 23 && (inR mi 0 59 && (inR s 0 59 && (inR zo (-840) 840 && (z || zo == 0)))))))
theorem spec_DateOk_at (k : Nat) (y mo d h mi s : Int) (z : Bool) (zo : Int) : spec_DateOk.f (k + 1) y mo d h mi s z zo = some (dok y mo d h mi s z zo) := by
  unfold spec_DateOk.f dok
  simp only [spec_l1In_eq, spec_DaysIn_at, Option.bind_some]
  cases inR y 1 9999 <;> cases inR mo 1 12 <;> cases inR d 1 (dim y mo) <;> cases inR h 0 23 <;> cases inR mi 0 59 <;> cases inR s 0 59 <;> cases inR zo (-840) 840 <;> cases z <;> simp
theorem spec_DateOk_ev (y mo d h mi s : Int) (z : Bool) (zo : Int) : Ev (fun k => spec_DateOk.f k y mo d h mi s z zo) (dok y mo d h mi s z zo) := Ev.later fun k => spec_DateOk_at k y mo d h mi s z zo
theorem dim_neg {y mo d : Int} (h : ¬ (inR y 1 9999 = true ∧ inR mo 1 12 = true)) : inR d 1 (dim y mo) = false := by
  unfold dim
  rw [if_neg h]
  simp [inR]
  omega
theorem impl_DateOk_eq (y mo d h mi s : Int) (z : Bool) (zo : Int) : impl_DateOk.f y mo d h mi s z zo = some (dok y mo d h mi s z zo) := by
  unfold impl_DateOk.f dok
  simp only [impl_in_eq, impl_DaysIn_eq, Option.bind_some]
  by_cases c : inR y 1 9999 = true ∧ inR mo 1 12 = true
  · rw [c.1, c.2]
    cases inR d 1 (dim y mo) <;> cases inR h 0 23 <;> cases inR mi 0 59 <;> cases inR s 0 59 <;> cases inR zo (-840) 840 <;> cases z <;> simp
  · rw [dim_neg c]
    simp
theorem inR_bd {a l h : Int} (c : inR a l h = true) : l ≤ a ∧ a ≤ h := inR_true.1 c
theorem dim_range (y m : Int) : -1 ≤ dim y m ∧ dim y m ≤ 31 := by
  unfold dim
  repeat' split
  all_goals omega
theorem dim_pos {y m : Int} (hy : 1 ≤ y ∧ y ≤ 9999) (hm : 1 ≤ m ∧ m ≤ 12) : 28 ≤ dim y m ∧ dim y m ≤ 31 := by
  have h1 : inR y 1 9999 = true := inR_true.2 hy
  have h2 : inR m 1 12 = true := inR_true.2 hm
  unfold dim
  rw [if_pos ⟨h1, h2⟩]
  repeat' split
  all_goals omega
theorem dok_parts {y mo d h mi s : Int} {z : Bool} {zo : Int} (c : dok y mo d h mi s z zo = true) :
    (1 ≤ y ∧ y ≤ 9999) ∧ (1 ≤ mo ∧ mo ≤ 12) ∧ (1 ≤ d ∧ d ≤ dim y mo) ∧ (0 ≤ h ∧ h ≤ 23) ∧ (0 ≤ mi ∧ mi ≤ 59) ∧ (0 ≤ s ∧ s ≤ 59) ∧ (-840 ≤ zo ∧ zo ≤ 840) ∧ (z = true ∨ zo = 0) := by
  unfold dok at c
  simp only [Bool.and_eq_true, Bool.or_eq_true, beq_iff_eq] at c
  obtain ⟨c1, c2, c3, c4, c5, c6, c7, c8⟩ := c
  exact ⟨inR_bd c1, inR_bd c2, inR_bd c3, inR_bd c4, inR_bd c5, inR_bd c6, inR_bd c7, c8⟩
/-- How many days lie ahead of a year. -/
def daysB (y : Int) : Int := 365 * (y - 1) + (y - 1) / 4 - (y - 1) / 100 + (y - 1) / 400
theorem daysB_wrap {y : Int} (h : 1 ≤ y) (h2 : y ≤ 20000) :
    wrap64 ((wrap64 ((wrap64 ((wrap64 (365 * (wrap64 (y - 1)))) + (wrap64 (Int.tdiv (wrap64 (y - 1)) 4)))) - (wrap64 (Int.tdiv (wrap64 (y - 1)) 100)))) + (wrap64 (Int.tdiv (wrap64 (y - 1)) 400))) = daysB y := by
  rw [w64 (x := y - 1) (by omega) (by omega), Int.tdiv_eq_ediv_of_nonneg (by omega), Int.tdiv_eq_ediv_of_nonneg (by omega), Int.tdiv_eq_ediv_of_nonneg (by omega)]
  rw [w64 (x := 365 * (y - 1)) (by omega) (by omega), w64 (x := (y - 1) / 4) (by omega) (by omega), w64 (x := (y - 1) / 100) (by omega) (by omega), w64 (x := (y - 1) / 400) (by omega) (by omega)]
  rw [w64 (x := 365 * (y - 1) + (y - 1) / 4) (by omega) (by omega), w64 (x := 365 * (y - 1) + (y - 1) / 4 - (y - 1) / 100) (by omega) (by omega), w64 (by omega) (by omega)]
  rfl
theorem spec_l5Days_eq {y : Int} (h : 1 ≤ y) (h2 : y ≤ 20000) : spec_l5Days.f y = some (daysB y) := by
  unfold spec_l5Days.f
  rw [daysB_wrap h h2]
theorem impl_daysBefore_eq {y : Int} (h : 1 ≤ y) (h2 : y ≤ 20000) : impl_daysBefore.f y = some (daysB y) := by
  unfold impl_daysBefore.f
  rw [daysB_wrap h h2]
theorem daysB_range {y : Int} (h : 1 ≤ y) (h2 : y ≤ 20000) : 0 ≤ daysB y ∧ daysB y ≤ 7305000 := by
  unfold daysB
  omega
/-- The days of the first n months. -/
def sumD (y : Int) : Nat → Int
  | 0 => 0
  | n + 1 => sumD y n + dim y ((n : Int) + 1)
theorem sumD_range (y : Int) : ∀ n : Nat, -(n : Int) ≤ sumD y n ∧ sumD y n ≤ 31 * (n : Int)
  | 0 => by simp [sumD]
  | n + 1 => by
    have := sumD_range y n
    have := dim_range y ((n : Int) + 1)
    simp only [sumD]
    omega
def secsF (days h mi s zo : Int) : Int := 86400 * days + 3600 * h + 60 * mi + s - 60 * zo
def secs (y mo d h mi s zo : Int) : Int := secsF (daysB y + d - 1 + sumD y (mo - 1).toNat) h mi s zo
theorem spec_l5Seconds_l0_ev (y mo d h mi s : Int) (z : Bool) (zo : Int) (hmo : mo ≤ 12) (hh : 0 ≤ h ∧ h ≤ 23) (hmi : 0 ≤ mi ∧ mi ≤ 59) (hs : 0 ≤ s ∧ s ≤ 59) (hzo : -840 ≤ zo ∧ zo ≤ 840) :
    ∀ (c : Nat) (n : Nat) (x : Int), (n : Int) + 1 + (c : Int) = mo → -(n : Int) ≤ x ∧ x ≤ 10000000 + 31 * (n : Int) →
      Ev (fun k => spec_l5Seconds.l0 k x ((n : Int) + 1) y mo d h mi s z zo) (secsF (x + (sumD y (n + c) - sumD y n)) h mi s zo) := by
  intro c
  induction c with
  | zero =>
    intro n x hn hx
    refine Ev.later fun k => ?_
    simp only [spec_l5Seconds.l0]
    rw [if_neg (by omega)]
    have e : x + (sumD y (n + 0) - sumD y n) = x := by simp
    rw [e]
    rw [w64 (x := 86400 * x) (by omega) (by omega), w64 (x := 3600 * h) (by omega) (by omega), w64 (x := 60 * mi) (by omega) (by omega), w64 (x := 60 * zo) (by omega) (by omega)]
    rw [w64 (x := 86400 * x + 3600 * h) (by omega) (by omega), w64 (x := 86400 * x + 3600 * h + 60 * mi) (by omega) (by omega), w64 (x := 86400 * x + 3600 * h + 60 * mi + s) (by omega) (by omega), w64 (by omega) (by omega)]
    rfl
  | succ c ih =>
    intro n x hn hx
    have hd := dim_range y ((n : Int) + 1)
    have := ih (n + 1) (x + dim y ((n : Int) + 1)) (by omega) (by omega)
    refine Ev.step (f := fun k => (spec_DaysIn.f k y ((n : Int) + 1)).bind fun t => spec_l5Seconds.l0 k (wrap64 (x + t)) (wrap64 ((n : Int) + 1 + 1)) y mo d h mi s z zo) (fun k => ?_) ?_
    · simp only [spec_l5Seconds.l0]
      rw [if_pos (by omega)]
    · refine Ev.bind (spec_DaysIn_ev y _) ?_
      rw [w64 (x := x + dim y ((n : Int) + 1)) (by omega) (by omega), w64 (x := (n : Int) + 1 + 1) (by omega) (by omega)]
      have e : ((n : Int) + 1 + 1) = (((n + 1 : Nat) : Int) + 1) := by omega
      rw [e]
      have e2 : x + (sumD y (n + (c + 1)) - sumD y n) = x + dim y ((n : Int) + 1) + (sumD y (n + 1 + c) - sumD y (n + 1)) := by
        have e3 : n + (c + 1) = n + 1 + c := by omega
        rw [e3]
        simp only [sumD]
        omega
      rw [e2]
      exact this
theorem impl_Date_seconds_l0_ev (y mo d h mi s : Int) (z : Bool) (zo : Int) (hmo : mo ≤ 12) (hh : 0 ≤ h ∧ h ≤ 23) (hmi : 0 ≤ mi ∧ mi ≤ 59) (hs : 0 ≤ s ∧ s ≤ 59) (hzo : -840 ≤ zo ∧ zo ≤ 840) :
    ∀ (c : Nat) (n : Nat) (x : Int), (n : Int) + 1 + (c : Int) = mo → -(n : Int) ≤ x ∧ x ≤ 10000000 + 31 * (n : Int) →
      Ev (fun k => impl_Date_seconds.l0 k x ((n : Int) + 1) y mo d h mi s z zo) (secsF (x + (sumD y (n + c) - sumD y n)) h mi s zo) := by
  intro c
  induction c with
  | zero =>
    intro n x hn hx
    refine Ev.later fun k => ?_
    simp only [impl_Date_seconds.l0]
    rw [if_neg (by omega)]
    have e : x + (sumD y (n + 0) - sumD y n) = x := by simp
    rw [e]
    rw [w64 (x := 24 * x) (by omega) (by omega), w64 (x := 24 * x + h) (by omega) (by omega), w64 (x := (24 * x + h) * 60) (by omega) (by omega), w64 (x := (24 * x + h) * 60 + mi) (by omega) (by omega), w64 (x := (24 * x + h) * 60 + mi - zo) (by omega) (by omega), w64 (x := ((24 * x + h) * 60 + mi - zo) * 60) (by omega) (by omega), w64 (by omega) (by omega)]
    unfold secsF
    congr 1
    omega
  | succ c ih =>
    intro n x hn hx
    have hd := dim_range y ((n : Int) + 1)
    have := ih (n + 1) (x + dim y ((n : Int) + 1)) (by omega) (by omega)
    refine Ev.step (f := fun k => (impl_DaysIn.f y ((n : Int) + 1)).bind fun t => impl_Date_seconds.l0 k (wrap64 (x + t)) (wrap64 ((n : Int) + 1 + 1)) y mo d h mi s z zo) (fun k => ?_) ?_
    · simp only [impl_Date_seconds.l0]
      rw [if_pos (by omega)]
    · refine Ev.bind (Ev.const fun _ => impl_DaysIn_eq y _) ?_
      rw [w64 (x := x + dim y ((n : Int) + 1)) (by omega) (by omega), w64 (x := (n : Int) + 1 + 1) (by omega) (by omega)]
      have e : ((n : Int) + 1 + 1) = (((n + 1 : Nat) : Int) + 1) := by omega
      rw [e]
      have e2 : x + (sumD y (n + (c + 1)) - sumD y n) = x + dim y ((n : Int) + 1) + (sumD y (n + 1 + c) - sumD y (n + 1)) := by
        have e3 : n + (c + 1) = n + 1 + c := by omega
        rw [e3]
        simp only [sumD]
        omega
      rw [e2]
      exact this
theorem secs_of (y mo d h mi s zo : Int) (hmo : 1 ≤ mo) : ∃ c : Nat, (0 : Nat) + 1 + (c : Int) = mo ∧ secs y mo d h mi s zo = secsF (daysB y + d - 1 + (sumD y (0 + c) - sumD y 0)) h mi s zo := by
  refine ⟨(mo - 1).toNat, by omega, ?_⟩
  unfold secs
  simp [sumD]
theorem spec_l5Seconds_ev {y mo d h mi s : Int} {z : Bool} {zo : Int} (c : dok y mo d h mi s z zo = true) : Ev (fun k => spec_l5Seconds.f k y mo d h mi s z zo) (secs y mo d h mi s zo) := by
  obtain ⟨c1, c2, c3, c4, c5, c6, c7, c8⟩ := dok_parts c
  have hd := dim_range y mo
  have hb := daysB_range c1.1 (by omega)
  unfold spec_l5Seconds.f
  simp only [spec_l5Days_eq c1.1 (show y ≤ 20000 by omega), Option.bind_some]
  rw [w64 (x := daysB y + d) (by omega) (by omega), w64 (x := daysB y + d - 1) (by omega) (by omega)]
  obtain ⟨n, hn, e⟩ := secs_of y mo d h mi s zo c2.1
  rw [e]
  exact spec_l5Seconds_l0_ev y mo d h mi s z zo c2.2 c4 c5 c6 c7 n 0 (daysB y + d - 1) hn (by omega)
theorem impl_Date_seconds_ev {y mo d h mi s : Int} {z : Bool} {zo : Int} (c : dok y mo d h mi s z zo = true) : Ev (fun k => impl_Date_seconds.f k y mo d h mi s z zo) (secs y mo d h mi s zo) := by
  obtain ⟨c1, c2, c3, c4, c5, c6, c7, c8⟩ := dok_parts c
  have hd := dim_range y mo
  have hb := daysB_range c1.1 (by omega)
  unfold impl_Date_seconds.f
  simp only [impl_daysBefore_eq c1.1 (show y ≤ 20000 by omega), Option.bind_some]
  rw [w64 (x := daysB y + d) (by omega) (by omega), w64 (x := daysB y + d - 1) (by omega) (by omega)]
  obtain ⟨n, hn, e⟩ := secs_of y mo d h mi s zo c2.1
  rw [e]
  exact impl_Date_seconds_l0_ev y mo d h mi s z zo c2.2 c4 c5 c6 c7 n 0 (daysB y + d - 1) hn (by omega)
theorem secs_range {y mo d h mi s : Int} {z : Bool} {zo : Int} (c : dok y mo d h mi s z zo = true) : -100000 ≤ secs y mo d h mi s zo ∧ secs y mo d h mi s zo ≤ 1000000000000 := by
  obtain ⟨c1, c2, c3, c4, c5, c6, c7, c8⟩ := dok_parts c
  have hb := daysB_range c1.1 (by omega)
  have hd := dim_range y mo
  have hs := sumD_range y (mo - 1).toNat
  have hs0 : 0 ≤ sumD y (mo - 1).toNat := by
    have : ∀ n : Nat, n ≤ 12 → 0 ≤ sumD y n := by
      intro n
      induction n with
      | zero => intro _; simp [sumD]
      | succ n ih =>
        intro hn
        have := ih (by omega)
        have := dim_pos (y := y) (m := (n : Int) + 1) c1 (by omega)
        simp only [sumD]
        omega
    exact this _ (by omega)
  unfold secs secsF
  omega
end Go.Proofs.Ytdfopjmokbcnlaa.PV
