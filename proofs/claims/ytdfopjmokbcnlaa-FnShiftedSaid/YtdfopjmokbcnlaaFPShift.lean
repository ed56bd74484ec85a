/- A date in another zone: years and months found out of days, by both. -/
import Derived.Test.YtdfopjmokbcnlaaPFx2
import Derived.Test.YtdfopjmokbcnlaaPFx3
import Derived.Test.YtdfopjmokbcnlaaPFx4
import Derived.Test.YtdfopjmokbcnlaaPFx5
import Derived.Test.YtdfopjmokbcnlaaPFx6
import Derived.Test.YtdfopjmokbcnlaaFPBase
import Derived.Test.YtdfopjmokbcnlaaFPIn
import Derived.Test.YtdfopjmokbcnlaaFPDates
import Derived.Test.YtdfopjmokbcnlaaFPYears
namespace Go.Proofs.Ytdfopjmokbcnlaa.PF
open Go.RowKit Go.Proofs.YtdfopjmokbcnlaaW.PrintWords
set_option linter.unusedVariables false
set_option linter.unusedSimpArgs false
def yearOf : Nat → Int → Int
  | 0, _ => 0
  | n + 1, D => if daysB ((n : Int) + 1) ≤ D then (n : Int) + 1 else yearOf n D
theorem yearOf_spec (D : Int) (h0 : 0 ≤ D) : ∀ n : Nat, D < daysB ((n : Int) + 1) → 1 ≤ yearOf n D ∧ yearOf n D ≤ n ∧ daysB (yearOf n D) ≤ D ∧ D < daysB (yearOf n D + 1)
  | 0, h => by
    have : daysB (((0 : Nat) : Int) + 1) = 0 := by decide
    omega
  | n + 1, h => by
    rw [yearOf]
    by_cases c : daysB ((n : Int) + 1) ≤ D
    · rw [if_pos c]
      exact ⟨by omega, by omega, c, by have e : (((n + 1 : Nat) : Int) + 1) = (n : Int) + 1 + 1 := by omega
                                       rw [← e]; exact h⟩
    · rw [if_neg c]
      have := yearOf_spec D h0 n (by omega)
      omega
def monthF (y : Int) : Nat → Nat → Int → Int × Int
  | 0, n, d => ((n : Int) + 1, d)
  | c + 1, n, d => if d ≥ dim y ((n : Int) + 1) then monthF y c (n + 1) (d - dim y ((n : Int) + 1)) else ((n : Int) + 1, d)
abbrev DateR := Int × Int × Int × Int × Int × Int × Bool × Int × Bool
def outR (at_ y : Int) (me : Int × Int) (zone : Int) : DateR := (y, me.1, me.2 + 1, at_ / 3600 % 24, at_ / 60 % 60, at_ % 60, true, zone, true)
theorem spec_l1_ev (x6 y zo : Int) (hy : 1 ≤ y ∧ y ≤ 9999) (h6 : 0 ≤ x6 ∧ x6 ≤ 400000000000) : ∀ (c n : Nat) (d : Int), n + c = 12 → 0 ≤ d → d < sumD y 12 - sumD y n →
    Ev (fun k => spec_Shifted.l1 k x6 d y ((n : Int) + 1) 0 0 0 0 true zo) (outR x6 y (monthF y c n d) zo) := by
  intro c
  induction c with
  | zero =>
    intro n d hn h0 h1
    obtain rfl : n = 12 := by omega
    omega
  | succ c ih =>
    intro n d hn h0 h1
    have hd := dim_pos (y := y) (m := (n : Int) + 1) hy (by omega)
    have hs := sumD_range y 12
    have hs2 := sumD_range y n
    rw [monthF]
    by_cases c1 : d ≥ dim y ((n : Int) + 1)
    · rw [if_pos c1]
      refine Ev.step (f := fun k => (spec_DaysIn.f k y ((n : Int) + 1)).bind fun t128 => if d ≥ t128 then ((spec_DaysIn.f k y ((n : Int) + 1)).bind fun t129 => spec_Shifted.l1 k x6 (wrap64 (d - t129)) y (wrap64 ((n : Int) + 1 + 1)) 0 0 0 0 true zo) else some (y, (n : Int) + 1, wrap64 (d + 1), Int.tmod (wrap64 (Int.tdiv x6 3600)) 24, Int.tmod (wrap64 (Int.tdiv x6 60)) 60, Int.tmod x6 60, true, zo, true)) (fun k => by rw [spec_Shifted.l1]) ?_
      refine Ev.bind (spec_DaysIn_ev y _) ?_
      simp only [if_pos c1]
      refine Ev.bind (spec_DaysIn_ev y _) ?_
      rw [w64 (x := d - dim y ((n : Int) + 1)) (by omega) (by omega), w64 (x := (n : Int) + 1 + 1) (by omega) (by omega)]
      have e : sumD y (n + 1) = sumD y n + dim y ((n : Int) + 1) := rfl
      exact ih (n + 1) (d - dim y ((n : Int) + 1)) (by omega) (by omega) (by omega)
    · rw [if_neg c1]
      refine Ev.step (f := fun k => (spec_DaysIn.f k y ((n : Int) + 1)).bind fun t128 => if d ≥ t128 then ((spec_DaysIn.f k y ((n : Int) + 1)).bind fun t129 => spec_Shifted.l1 k x6 (wrap64 (d - t129)) y (wrap64 ((n : Int) + 1 + 1)) 0 0 0 0 true zo) else some (y, (n : Int) + 1, wrap64 (d + 1), Int.tmod (wrap64 (Int.tdiv x6 3600)) 24, Int.tmod (wrap64 (Int.tdiv x6 60)) 60, Int.tmod x6 60, true, zo, true)) (fun k => by rw [spec_Shifted.l1]) ?_
      refine Ev.bind (spec_DaysIn_ev y _) ?_
      simp only [if_neg c1]
      unfold outR
      rw [Int.tdiv_eq_ediv_of_nonneg (by omega), Int.tdiv_eq_ediv_of_nonneg (by omega), w64 (x := x6 / 3600) (by omega) (by omega), w64 (x := x6 / 60) (by omega) (by omega), tmod_zero (by omega), tmod_zero (by omega), tmod_zero (by omega), w64 (x := d + 1) (by omega) (by omega)]
      exact Ev.now _
theorem spec_l0_ev (x6 D zo Y : Int) (h6 : 0 ≤ x6 ∧ x6 ≤ 400000000000) (hY : 1 ≤ Y ∧ Y ≤ 9999) (h1 : daysB Y ≤ D) (h2 : D < daysB (Y + 1)) : ∀ (c : Nat) (y : Int), 1 ≤ y → y + c = Y →
    Ev (fun k => spec_Shifted.l0 k x6 D y 1 0 0 0 0 true zo) (outR x6 Y (monthF Y 12 0 (D - daysB Y)) zo) := by
  have hb := daysB_range hY.1 (by omega)
  have hb2 := daysB_range (y := Y + 1) (by omega) (by omega)
  intro c
  induction c with
  | zero =>
    intro y hy he
    obtain rfl : y = Y := by omega
    refine Ev.step (f := fun k => spec_Shifted.l1 k x6 (D - daysB y) y 1 0 0 0 0 true zo) (fun k => ?_) ?_
    · rw [spec_Shifted.l0, w64 (x := y + 1) (by omega) (by omega), spec_l5Days_eq (y := y + 1) (by omega) (by omega), Option.bind_some, if_neg (by omega), spec_l5Days_eq (y := y) (by omega) (by omega), Option.bind_some, w64 (x := D - daysB y) (by omega) (by omega)]
    · exact spec_l1_ev x6 y zo hY h6 12 0 (D - daysB y) (by omega) (by omega) (by rw [year_long hY.1 hY.2]; simp only [sumD]; omega)
  | succ c ih =>
    intro y hy he
    have hm : daysB (y + 1) ≤ daysB Y := daysB_mono (by omega)
    refine Ev.step (fun k => ?_) (ih (y + 1) (by omega) (by omega))
    rw [spec_Shifted.l0, w64 (x := y + 1) (by omega) (by omega), spec_l5Days_eq (y := y + 1) (by omega) (by omega), Option.bind_some, if_pos (by omega)]
theorem impl_l1_ev (x6 y zo : Int) (hy : 1 ≤ y ∧ y ≤ 9999) : ∀ (c n : Nat) (d : Int), n + c = 12 → 0 ≤ d → d < sumD y 12 - sumD y n →
    Ev (fun k => impl_Shifted.l1 k d y ((n : Int) + 1) 0 (x6 / 3600 % 24) (x6 / 60 % 60) (x6 % 60) true zo) (outR x6 y (monthF y c n d) zo) := by
  intro c
  induction c with
  | zero =>
    intro n d hn h0 h1
    obtain rfl : n = 12 := by omega
    omega
  | succ c ih =>
    intro n d hn h0 h1
    have hd := dim_pos (y := y) (m := (n : Int) + 1) hy (by omega)
    have hs := sumD_range y 12
    have hs2 := sumD_range y n
    rw [monthF]
    by_cases c1 : d ≥ dim y ((n : Int) + 1)
    · rw [if_pos c1]
      have e : sumD y (n + 1) = sumD y n + dim y ((n : Int) + 1) := rfl
      refine Ev.step (fun k => ?_) (ih (n + 1) (d - dim y ((n : Int) + 1)) (by omega) (by omega) (by omega))
      rw [impl_Shifted.l1, impl_DaysIn_eq, Option.bind_some, if_pos c1, Option.bind_some, w64 (x := d - dim y ((n : Int) + 1)) (by omega) (by omega), w64 (x := (n : Int) + 1 + 1) (by omega) (by omega)]
      rfl
    · rw [if_neg c1]
      refine Ev.later fun k => ?_
      rw [impl_Shifted.l1, impl_DaysIn_eq, Option.bind_some, if_neg c1, w64 (x := d + 1) (by omega) (by omega)]
      rfl
theorem impl_l0_ev (x6 D zo Y : Int) (hY : 1 ≤ Y ∧ Y ≤ 9999) (h1 : daysB Y ≤ D) (h2 : D < daysB (Y + 1)) : ∀ (c : Nat) (y : Int), 1 ≤ y → y + c = Y →
    Ev (fun k => impl_Shifted.l0 k D y 1 0 (x6 / 3600 % 24) (x6 / 60 % 60) (x6 % 60) true zo) (outR x6 Y (monthF Y 12 0 (D - daysB Y)) zo) := by
  have hb := daysB_range hY.1 (by omega)
  have hb2 := daysB_range (y := Y + 1) (by omega) (by omega)
  intro c
  induction c with
  | zero =>
    intro y hy he
    obtain rfl : y = Y := by omega
    refine Ev.step (f := fun k => impl_Shifted.l1 k (D - daysB y) y 1 0 (x6 / 3600 % 24) (x6 / 60 % 60) (x6 % 60) true zo) (fun k => ?_) ?_
    · rw [impl_Shifted.l0, w64 (x := y + 1) (by omega) (by omega), impl_daysBefore_eq (y := y + 1) (by omega) (by omega), Option.bind_some, if_neg (by omega), impl_daysBefore_eq (y := y) (by omega) (by omega), Option.bind_some, w64 (x := D - daysB y) (by omega) (by omega)]
    · exact impl_l1_ev x6 y zo hY 12 0 (D - daysB y) (by omega) (by omega) (by rw [year_long hY.1 hY.2]; simp only [sumD]; omega)
  | succ c ih =>
    intro y hy he
    have hm : daysB (y + 1) ≤ daysB Y := daysB_mono (by omega)
    refine Ev.step (fun k => ?_) (ih (y + 1) (by omega) (by omega))
    rw [impl_Shifted.l0, w64 (x := y + 1) (by omega) (by omega), impl_daysBefore_eq (y := y + 1) (by omega) (by omega), Option.bind_some, if_pos (by omega)]
def noDate : DateR := (0, 0, 0, 0, 0, 0, false, 0, false)
def foundF (x6 zo : Int) : DateR := if x6 < 0 ∨ x6 ≥ 315537897600 then noDate else outR x6 (yearOf 9999 (x6 / 86400)) (monthF (yearOf 9999 (x6 / 86400)) 12 0 (x6 / 86400 - daysB (yearOf 9999 (x6 / 86400)))) zo
theorem years_of {x6 : Int} (h : ¬ (x6 < 0 ∨ x6 ≥ 315537897600)) : (0 ≤ x6 ∧ x6 ≤ 400000000000) ∧ (1 ≤ yearOf 9999 (x6 / 86400) ∧ yearOf 9999 (x6 / 86400) ≤ 9999) ∧ daysB (yearOf 9999 (x6 / 86400)) ≤ x6 / 86400 ∧ x6 / 86400 < daysB (yearOf 9999 (x6 / 86400) + 1) := by
  have hl : daysB (((9999 : Nat) : Int) + 1) = 3652059 := by decide
  have := yearOf_spec (x6 / 86400) (by omega) 9999 (by rw [hl]; omega)
  omega
theorem spec_j1_ev (x1 x6 : Int) (x35 : Bool) (hx : x35 = decide (x6 < 0 ∨ x6 ≥ 315537897600)) : Ev (fun k => spec_Shifted.j1 k x1 x6 x35) (foundF x6 x1) := by
  unfold foundF
  by_cases c : x6 < 0 ∨ x6 ≥ 315537897600
  · rw [if_pos c]
    rw [decide_eq_true c] at hx
    exact Ev.later fun k => by rw [spec_Shifted.j1, if_pos hx]; rfl
  · rw [if_neg c]
    rw [decide_eq_false c] at hx
    obtain ⟨a, b, d, e⟩ := years_of c
    refine Ev.step (f := fun k => spec_Shifted.l0 k x6 (x6 / 86400) 1 1 0 0 0 0 true x1) (fun k => ?_) ?_
    · rw [spec_Shifted.j1, hx, if_neg (by decide), Int.tdiv_eq_ediv_of_nonneg a.1, w64 (x := x6 / 86400) (by omega) (by omega)]
    · exact spec_l0_ev x6 (x6 / 86400) x1 _ a b d e (yearOf 9999 (x6 / 86400) - 1).toNat 1 (by omega) (by omega)
theorem impl_j1_ev (x1 x6 : Int) (x35 : Bool) (hx : x35 = decide (x6 < 0 ∨ x6 ≥ 315537897600)) : Ev (fun k => impl_Shifted.j1 k x1 x6 x35) (foundF x6 x1) := by
  unfold foundF
  by_cases c : x6 < 0 ∨ x6 ≥ 315537897600
  · rw [if_pos c]
    rw [decide_eq_true c] at hx
    exact Ev.later fun k => by rw [impl_Shifted.j1, if_pos hx]; rfl
  · rw [if_neg c]
    rw [decide_eq_false c] at hx
    obtain ⟨a, b, d, e⟩ := years_of c
    have q1 : x6 / 60 / 60 = x6 / 3600 := by omega
    have q2 : x6 / 60 / 60 / 24 = x6 / 86400 := by omega
    refine Ev.step (f := fun k => impl_Shifted.l0 k (x6 / 86400) (x6 / 86400 / 366 + 1) 1 0 (x6 / 3600 % 24) (x6 / 60 % 60) (x6 % 60) true x1) (fun k => ?_) ?_
    · rw [impl_Shifted.j1, hx, if_neg (by decide), Int.tdiv_eq_ediv_of_nonneg (a := x6) (b := 60) a.1, w64 (x := x6 / 60) (by omega) (by omega), Int.tdiv_eq_ediv_of_nonneg (a := x6 / 60) (b := 60) (by omega), w64 (x := x6 / 60 / 60) (by omega) (by omega), q1, Int.tdiv_eq_ediv_of_nonneg (a := x6 / 3600) (b := 24) (by omega), w64 (x := x6 / 3600 / 24) (by omega) (by omega), show x6 / 3600 / 24 = x6 / 86400 by omega, Int.tdiv_eq_ediv_of_nonneg (a := x6 / 86400) (b := 366) (by omega), w64 (x := x6 / 86400 / 366) (by omega) (by omega), w64 (x := x6 / 86400 / 366 + 1) (by omega) (by omega), tmod_zero (y := x6 / 3600) (by omega), tmod_zero (y := x6 / 60) (by omega), tmod_zero (y := x6) (by omega)]
    · have hb := daysB_below (y := x6 / 86400 / 366 + 1) (by omega)
      have hle : x6 / 86400 / 366 + 1 ≤ yearOf 9999 (x6 / 86400) := by
        apply Classical.byContradiction
        intro hc
        have := daysB_mono (a := yearOf 9999 (x6 / 86400) + 1) (b := x6 / 86400 / 366 + 1) (by omega)
        omega
      exact impl_l0_ev x6 (x6 / 86400) x1 _ b d e (yearOf 9999 (x6 / 86400) - (x6 / 86400 / 366 + 1)).toNat _ (by omega) (by omega)
def shiftF (y mo d h mi s : Int) (z : Bool) (zo a1 : Int) : DateR := if dok y mo d h mi s z zo = true ∧ z = true ∧ inR a1 (-840) 840 = true then foundF (secs y mo d h mi s zo + 60 * a1) a1 else noDate
theorem spec_Shifted_ev (y mo d h mi s : Int) (z : Bool) (zo a1 : Int) : Ev (fun k => spec_Shifted.f k y mo d h mi s z zo a1) (shiftF y mo d h mi s z zo a1) := by
  have no : ∀ b : Bool, b = true → Ev (fun k => spec_Shifted.j0 k a1 b y mo d h mi s z zo) noDate := fun b hb => Ev.later fun k => by rw [spec_Shifted.j0, if_pos hb]; rfl
  unfold spec_Shifted.f shiftF
  refine Ev.bind (spec_DateOk_ev y mo d h mi s z zo) ?_
  by_cases c : dok y mo d h mi s z zo = true
  · simp only [c, if_true, true_and]
    by_cases cz : z = true
    · subst cz
      simp only [if_true, true_and, spec_l1In_eq, Option.bind_some]
      by_cases ca : inR a1 (-840) 840 = true
      · simp only [ca, if_true, Bool.not_true]
        have hr := secs_range c
        have ha := inR_bd ca
        have w1 : wrap64 (secs y mo d h mi s zo + wrap64 (60 * a1)) = secs y mo d h mi s zo + 60 * a1 := by rw [w64 (x := 60 * a1) (by omega) (by omega), w64 (by omega) (by omega)]
        refine Ev.step (f := fun k => (spec_l5Seconds.f k y mo d h mi s true zo).bind fun t123 => if wrap64 (t123 + wrap64 (60 * a1)) < 0 then spec_Shifted.j1 k a1 (wrap64 (t123 + wrap64 (60 * a1))) true else spec_Shifted.j1 k a1 (wrap64 (t123 + wrap64 (60 * a1))) (decide (wrap64 (t123 + wrap64 (60 * a1)) ≥ wrap64 (86400 * 3652059)))) (fun k => ?_) ?_
        · rw [spec_Shifted.j0, if_neg (by decide), spec_l5Days_eq (y := 10000) (by decide) (by decide), daysB_last]
          rfl
        · refine Ev.bind (spec_l5Seconds_ev c) ?_
          rw [w1]
          generalize secs y mo d h mi s zo + 60 * a1 = x
          by_cases c0 : x < 0
          · simp only [if_pos c0]
            exact spec_j1_ev a1 x true (by rw [decide_eq_true (Or.inl c0)])
          · simp only [if_neg c0]
            refine spec_j1_ev a1 x _ ?_
            have : wrap64 (86400 * 3652059) = 315537897600 := by rw [w64 (by decide) (by decide)]; rfl
            rw [this]
            by_cases c9 : x ≥ 315537897600
            · rw [decide_eq_true c9, decide_eq_true (Or.inr c9)]
            · rw [decide_eq_false c9, decide_eq_false (by omega)]
      · simp only [ca, if_false, Bool.not_eq_true] at ca ⊢
        simp only [ca, Bool.not_false]
        exact no _ rfl
    · obtain rfl : z = false := by simpa using cz
      simp only [Bool.false_eq_true, if_false, false_and]
      exact no _ rfl
  · simp only [c, if_false, false_and]
    exact no _ rfl
theorem impl_Shifted_ev (y mo d h mi s : Int) (z : Bool) (zo a1 : Int) : Ev (fun k => impl_Shifted.f k y mo d h mi s z zo a1) (shiftF y mo d h mi s z zo a1) := by
  have no : ∀ b : Bool, b = true → Ev (fun k => impl_Shifted.j0 k a1 b y mo d h mi s z zo) noDate := fun b hb => Ev.later fun k => by rw [impl_Shifted.j0, if_pos hb]; rfl
  unfold impl_Shifted.f shiftF
  simp only [impl_DateOk_eq, Option.bind_some]
  by_cases c : dok y mo d h mi s z zo = true
  · simp only [c, if_true, true_and]
    by_cases cz : z = true
    · subst cz
      simp only [if_true, true_and, impl_in_eq, Option.bind_some]
      by_cases ca : inR a1 (-840) 840 = true
      · simp only [ca, if_true, Bool.not_true]
        have hr := secs_range c
        have ha := inR_bd ca
        have w1 : wrap64 (secs y mo d h mi s zo + wrap64 (60 * a1)) = secs y mo d h mi s zo + 60 * a1 := by rw [w64 (x := 60 * a1) (by omega) (by omega), w64 (by omega) (by omega)]
        refine Ev.step (f := fun k => (impl_Date_seconds.f k y mo d h mi s true zo).bind fun t123 => if wrap64 (t123 + wrap64 (60 * a1)) < 0 then impl_Shifted.j1 k a1 (wrap64 (t123 + wrap64 (60 * a1))) true else impl_Shifted.j1 k a1 (wrap64 (t123 + wrap64 (60 * a1))) (decide (wrap64 (t123 + wrap64 (60 * a1)) ≥ wrap64 (86400 * 3652059)))) (fun k => ?_) ?_
        · rw [impl_Shifted.j0, if_neg (by decide), impl_daysBefore_eq (y := 10000) (by decide) (by decide), daysB_last]
          rfl
        · refine Ev.bind (impl_Date_seconds_ev c) ?_
          rw [w1]
          generalize secs y mo d h mi s zo + 60 * a1 = x
          by_cases c0 : x < 0
          · simp only [if_pos c0]
            exact impl_j1_ev a1 x true (by rw [decide_eq_true (Or.inl c0)])
          · simp only [if_neg c0]
            refine impl_j1_ev a1 x _ ?_
            have : wrap64 (86400 * 3652059) = 315537897600 := by rw [w64 (by decide) (by decide)]; rfl
            rw [this]
            by_cases c9 : x ≥ 315537897600
            · rw [decide_eq_true c9, decide_eq_true (Or.inr c9)]
            · rw [decide_eq_false c9, decide_eq_false (by omega)]
      · simp only [ca, if_false, Bool.not_eq_true] at ca ⊢
        simp only [ca, Bool.not_false]
        exact no _ rfl
    · obtain rfl : z = false := by simpa using cz
      simp only [Bool.false_eq_true, if_false, false_and]
      exact no _ rfl
  · simp only [c, if_false, false_and]
    exact no _ rfl
end Go.Proofs.Ytdfopjmokbcnlaa.PF
