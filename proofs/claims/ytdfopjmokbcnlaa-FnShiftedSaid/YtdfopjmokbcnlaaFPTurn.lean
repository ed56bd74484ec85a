/- A date in another zone and back. -/
import Derived.Test.YtdfopjmokbcnlaaPFx0
import Derived.Test.YtdfopjmokbcnlaaFPBase
import Derived.Test.YtdfopjmokbcnlaaFPIn
import Derived.Test.YtdfopjmokbcnlaaFPDates
import Derived.Test.YtdfopjmokbcnlaaFPDatesI
import Derived.Test.YtdfopjmokbcnlaaFPYears
import Derived.Test.YtdfopjmokbcnlaaFPShift
namespace Go.Proofs.Ytdfopjmokbcnlaa.PF
open Go.RowKit Go.Proofs.YtdfopjmokbcnlaaW.PrintWords
set_option linter.unusedVariables false
set_option linter.unusedSimpArgs false
theorem monthF_spec (y : Int) (hy : 1 ≤ y ∧ y ≤ 9999) : ∀ (c n : Nat) (d : Int), n + c = 12 → 0 ≤ d → d < sumD y 12 - sumD y n → ∃ j : Nat, n + j < 12 ∧ (monthF y c n d).1 = ((n + j : Nat) : Int) + 1 ∧ (monthF y c n d).2 = d - (sumD y (n + j) - sumD y n) ∧ 0 ≤ (monthF y c n d).2 ∧ (monthF y c n d).2 < dim y (((n + j : Nat) : Int) + 1) := by
  intro c
  induction c with
  | zero =>
    intro n d hn h0 h1
    obtain rfl : n = 12 := by omega
    omega
  | succ c ih =>
    intro n d hn h0 h1
    have e : sumD y (n + 1) = sumD y n + dim y ((n : Int) + 1) := rfl
    rw [monthF]
    by_cases c1 : d ≥ dim y ((n : Int) + 1)
    · rw [if_pos c1]
      obtain ⟨j, a, b, c2, d2, e2⟩ := ih (n + 1) (d - dim y ((n : Int) + 1)) (by omega) (by omega) (by omega)
      refine ⟨j + 1, by omega, ?_, ?_, d2, ?_⟩
      · rw [b]
        omega
      · rw [c2, show n + (j + 1) = n + 1 + j by omega]
        omega
      · rw [show n + (j + 1) = n + 1 + j by omega]
        exact e2
    · rw [if_neg c1]
      exact ⟨0, by omega, rfl, by simp, h0, by simpa using c1⟩
theorem monthF_at (y : Int) (hy : 1 ≤ y ∧ y ≤ 9999) : ∀ (j c n : Nat) (r : Int), n + c = 12 → n + j < 12 → 0 ≤ r → r < dim y (((n + j : Nat) : Int) + 1) → monthF y c n (sumD y (n + j) - sumD y n + r) = (((n + j : Nat) : Int) + 1, r) := by
  intro j
  induction j with
  | zero =>
    intro c n r hn hj h0 h1
    obtain ⟨c, rfl⟩ : ∃ m, c = m + 1 := ⟨c - 1, by omega⟩
    have e : sumD y (n + 0) - sumD y n + r = r := by simp
    rw [e, monthF, if_neg (by simpa using h1)]
    rfl
  | succ j ih =>
    intro c n r hn hj h0 h1
    obtain ⟨c, rfl⟩ : ∃ m, c = m + 1 := ⟨c - 1, by omega⟩
    have e : sumD y (n + 1) = sumD y n + dim y ((n : Int) + 1) := rfl
    have hs : ∀ m : Nat, n + 1 + m ≤ 12 → sumD y (n + 1) ≤ sumD y (n + 1 + m) := by
      intro m
      induction m with
      | zero => intro _; exact Int.le_refl _
      | succ m ihm =>
        intro hm
        have := ihm (by omega)
        have hd := dim_pos (y := y) (m := ((n + 1 + m : Nat) : Int) + 1) hy (by omega)
        have e3 : sumD y (n + 1 + (m + 1)) = sumD y (n + 1 + m) + dim y (((n + 1 + m : Nat) : Int) + 1) := rfl
        omega
    have h2 := hs j (by omega)
    rw [show n + (j + 1) = n + 1 + j by omega] at h1 ⊢
    rw [monthF, if_pos (by omega)]
    have := ih c (n + 1) r (by omega) (by omega) h0 h1
    rw [show sumD y (n + 1 + j) - sumD y n + r - dim y ((n : Int) + 1) = sumD y (n + 1 + j) - sumD y (n + 1) + r by omega]
    exact this
theorem yearOf_at {D Y : Int} (h0 : 0 ≤ D) (hD : D < 3652059) (hY : 1 ≤ Y ∧ Y ≤ 9999) (h1 : daysB Y ≤ D) (h2 : D < daysB (Y + 1)) : yearOf 9999 D = Y := by
  have hl : daysB (((9999 : Nat) : Int) + 1) = 3652059 := by decide
  obtain ⟨a, b, c, d⟩ := yearOf_spec D h0 9999 (by rw [hl]; exact hD)
  apply Classical.byContradiction
  intro hne
  by_cases hlt : yearOf 9999 D < Y
  · have := daysB_mono (a := yearOf 9999 D + 1) (b := Y) (by omega)
    omega
  · have := daysB_mono (a := Y + 1) (b := yearOf 9999 D) (by omega)
    omega
/-- Where a date is found again by its own seconds. -/
theorem found_self {y mo d h mi s : Int} {zo : Int} (c : dok y mo d h mi s true zo = true) : foundF (secs y mo d h mi s zo + 60 * zo) zo = (y, mo, d, h, mi, s, true, zo, true) := by
  obtain ⟨c1, c2, c3, c4, c5, c6, c7, _⟩ := dok_parts c
  obtain ⟨n, rfl⟩ : ∃ n : Nat, mo = (n : Int) + 1 := ⟨(mo - 1).toNat, by omega⟩
  have hd := dim_pos c1 c2
  have hb := daysB_range c1.1 (by omega)
  have hy := year_long c1.1 c1.2
  have e1 : ((n : Int) + 1 - 1).toNat = n := by omega
  have hs : ∀ m : Nat, m ≤ 12 → 0 ≤ sumD y m ∧ ∀ q : Nat, m + q ≤ 12 → sumD y m ≤ sumD y (m + q) := by
    have pos : ∀ q m : Nat, m + q ≤ 12 → sumD y m ≤ sumD y (m + q) := by
      intro q
      induction q with
      | zero => intro m _; exact Int.le_refl _
      | succ q ih =>
        intro m hm
        have := ih m (by omega)
        have hd := dim_pos (y := y) (m := ((m + q : Nat) : Int) + 1) c1 (by omega)
        have e3 : sumD y (m + (q + 1)) = sumD y (m + q) + dim y (((m + q : Nat) : Int) + 1) := rfl
        omega
    intro m hm
    have := pos m 0 (by omega)
    rw [Nat.zero_add] at this
    exact ⟨this, fun q hq => pos q m hq⟩
  have hn := hs n (by omega)
  have h12 := (hs (n + 1) (by omega)).2 (11 - n) (by omega)
  rw [show n + 1 + (11 - n) = 12 by omega] at h12
  have e2 : sumD y (n + 1) = sumD y n + dim y ((n : Int) + 1) := rfl
  have hlast := daysB_mono (a := y + 1) (b := 10000) (by omega)
  rw [daysB_last] at hlast
  have eat : secs y ((n : Int) + 1) d h mi s zo + 60 * zo = 86400 * (daysB y + sumD y n + (d - 1)) + 3600 * h + 60 * mi + s := by
    unfold secs secsF
    rw [e1]
    omega
  rw [eat]
  generalize hD : daysB y + sumD y n + (d - 1) = D
  have hq : (86400 * D + 3600 * h + 60 * mi + s) / 86400 = D := by omega
  unfold foundF
  rw [if_neg (by omega), hq]
  have hY : yearOf 9999 D = y := yearOf_at (by omega) (by omega) c1 (by omega) (by omega)
  rw [hY]
  have hm := monthF_at y c1 n 12 0 (d - 1) (by omega) (by omega) (by omega) (by rw [Nat.zero_add]; omega)
  rw [Nat.zero_add, show sumD y n - sumD y 0 + (d - 1) = D - daysB y by simp only [sumD]; omega] at hm
  rw [hm]
  unfold outR
  simp only [Prod.mk.injEq, true_and, and_true]
  omega
/-- What is found is a right date, of those seconds. -/
theorem found_ok {x6 zo : Int} (hz : -840 ≤ zo ∧ zo ≤ 840) (h : ¬ (x6 < 0 ∨ x6 ≥ 315537897600)) : ∃ y mo d hh mi s : Int, foundF x6 zo = (y, mo, d, hh, mi, s, true, zo, true) ∧ dok y mo d hh mi s true zo = true ∧ secs y mo d hh mi s zo = x6 - 60 * zo := by
  obtain ⟨a, b, c, e⟩ := years_of h
  have hy := year_long b.1 b.2
  obtain ⟨j, j1, j2, j3, j4, j5⟩ := monthF_spec (yearOf 9999 (x6 / 86400)) b 12 0 (x6 / 86400 - daysB (yearOf 9999 (x6 / 86400))) (by omega) (by omega) (by rw [hy]; simp only [sumD]; omega)
  rw [Nat.zero_add] at j1 j2 j3 j5
  unfold foundF
  rw [if_neg h]
  generalize yearOf 9999 (x6 / 86400) = Y at *
  generalize hM : monthF Y 12 0 (x6 / 86400 - daysB Y) = M at *
  refine ⟨Y, M.1, M.2 + 1, x6 / 3600 % 24, x6 / 60 % 60, x6 % 60, rfl, ?_, ?_⟩
  · unfold dok
    rw [j2]
    have hd := dim_pos (y := Y) (m := (j : Int) + 1) b (by omega)
    rw [inR_true.2 b, inR_true.2 (show 1 ≤ (j : Int) + 1 ∧ (j : Int) + 1 ≤ 12 by omega), inR_true.2 (show 1 ≤ M.2 + 1 ∧ M.2 + 1 ≤ dim Y ((j : Int) + 1) by omega), inR_true.2 (show 0 ≤ x6 / 3600 % 24 ∧ x6 / 3600 % 24 ≤ 23 by omega), inR_true.2 (show 0 ≤ x6 / 60 % 60 ∧ x6 / 60 % 60 ≤ 59 by omega), inR_true.2 (show 0 ≤ x6 % 60 ∧ x6 % 60 ≤ 59 by omega), inR_true.2 hz]
    rfl
  · unfold secs secsF
    rw [j2, j3, show ((j : Int) + 1 - 1).toNat = j by omega]
    simp only [sumD]
    omega
end Go.Proofs.Ytdfopjmokbcnlaa.PF
