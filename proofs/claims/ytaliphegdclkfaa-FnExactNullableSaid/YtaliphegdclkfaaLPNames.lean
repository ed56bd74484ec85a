import Derived.Test.YtaliphegdclkfaaPLx2
import Derived.Test.YtaliphegdclkfaaPLx6
import Derived.Test.YtaliphegdclkfaaLPBase
import Derived.Test.YtaliphegdclkfaaLPIn
namespace Go.Proofs.Ytaliphegdclkfaa.PL
open Go.RowKit Go.Proofs.YtaliphegdclkfaaW.PrintWords
set_option linter.unusedVariables false
set_option linter.unusedSimpArgs false
/- Names: what both NameOk come to. -/
def firstB (c : Int) : Bool := decide ((97 ≤ c ∧ c ≤ 122) ∨ (65 ≤ c ∧ c ≤ 90) ∨ c = 95)
def moreB (c : Int) : Bool := decide ((97 ≤ c ∧ c ≤ 122) ∨ (65 ≤ c ∧ c ≤ 90) ∨ c = 95 ∨ (48 ≤ c ∧ c ≤ 57) ∨ c = 46 ∨ c = 45)
def nameOk (s : ByteArray) : Bool := decide (1 ≤ s.size) && (decide (s.size ≤ 40) && (firstB (bt s 0) && ((bytesOf s).drop 1).all moreB))
theorem spec_l1First_eq (c : Int) : spec_l1First.f c = some (firstB c) := by
  unfold spec_l1First.f firstB
  repeat' split
  all_goals (congr 1; first | (symm; exact decide_eq_true (by omega)) | (rw [Bool.eq_iff_iff]; simp only [beq_iff_eq, decide_eq_true_eq]; omega))
theorem spec_l1Digit_eq (c : Int) : spec_l1Digit.f c = some (decide (48 ≤ c ∧ c ≤ 57)) := by
  unfold spec_l1Digit.f
  split
  · congr 1
    rw [Bool.eq_iff_iff]
    simp only [decide_eq_true_eq]
    omega
  · congr 1
    symm
    exact decide_eq_false (by omega)
theorem spec_l1More_eq (c : Int) : spec_l1More.f c = some (moreB c) := by
  unfold spec_l1More.f moreB
  simp only [spec_l1First_eq, spec_l1Digit_eq, Option.bind_some, firstB, decide_eq_true_eq]
  repeat' split
  all_goals (congr 1; first | (symm; exact decide_eq_true (by omega)) | (rw [Bool.eq_iff_iff]; simp only [beq_iff_eq, decide_eq_true_eq]; omega))
theorem spec_NameOk_l0_ev (s : ByteArray) (hs : s.size ≤ 140737488351232) : ∀ (d n : Nat), n + d = s.size → Ev (fun k => spec_NameOk.l0 k s (n : Int)) (((bytesOf s).drop n).all moreB) := by
  intro d
  induction d with
  | zero =>
    intro n hn
    rw [bytes_drop_end s n (by omega)]
    refine Ev.later fun k => ?_
    simp only [spec_NameOk.l0]
    rw [if_neg (cast_nlt (by omega))]
    rfl
  | succ d ih =>
    intro n hn
    rw [bytes_drop s n (by omega), List.all_cons]
    refine Ev.step (f := fun k => if moreB (bt s n) = true then spec_NameOk.l0 k s ((n + 1 : Nat) : Int) else some false) (fun k => ?_) ?_
    · simp only [spec_NameOk.l0]
      rw [if_pos (cast_lt (by omega)), if_pos (by omega), spec_l1More_eq, Option.bind_some, wrap_succ (n := s.size) (by omega) (cast_lt (by omega)) (by omega)]
      rfl
    · cases h : moreB (bt s n)
      · simp only [Bool.false_eq_true, if_false, Bool.false_and]
        exact Ev.now _
      · simp only [if_true, Bool.true_and]
        exact ih (n + 1) (by omega)
theorem spec_NameOk_ev (s : ByteArray) (hs : s.size ≤ 140737488351232) : Ev (fun k => spec_NameOk.f k s) (nameOk s) := by
  unfold spec_NameOk.f nameOk
  by_cases h1 : (s.size : Int) < 1
  · simp only [h1, if_true]
    rw [decide_eq_false (by omega), Bool.false_and]
    exact Ev.later fun k => by simp only [spec_NameOk.j0, if_true]
  simp only [h1, if_false]
  rw [decide_eq_true (show 1 ≤ s.size by omega), Bool.true_and]
  by_cases h2 : (s.size : Int) > 40
  · simp only [h2, if_true]
    rw [decide_eq_false (by omega), Bool.false_and]
    exact Ev.later fun k => by simp only [spec_NameOk.j0, if_true]
  simp only [h2, if_false, show (0 : Int) < (s.size : Int) by omega, if_true, spec_l1First_eq, Option.bind_some]
  rw [decide_eq_true (show s.size ≤ 40 by omega), Bool.true_and]
  cases firstB (bt s 0)
  · exact Ev.later fun k => by simp only [spec_NameOk.j0, Bool.not_false, if_true, Bool.false_and]
  · simp only [Bool.not_true, Bool.true_and]
    refine Ev.step (f := fun k => spec_NameOk.l0 k s ((1 : Nat) : Int)) (fun k => by simp only [spec_NameOk.j0, Bool.false_eq_true, if_false]; rfl) ?_
    exact spec_NameOk_l0_ev s hs (s.size - 1) 1 (by omega)
set_option maxHeartbeats 8000000 in
theorem impl_NameOk_l0_yes (k : Nat) (s : ByteArray) (i : Int) (h0 : 0 ≤ i) (h : i < (s.size : Int)) (hc : (97 ≤ bt s i ∧ bt s i ≤ 122) ∨ (65 ≤ bt s i ∧ bt s i ≤ 90) ∨ bt s i = 95 ∨ (¬ i = 0 ∧ ((48 ≤ bt s i ∧ bt s i ≤ 57) ∨ bt s i = 46 ∨ bt s i = 45))) :
    impl_NameOk.l0 (k + 1) s (s.size : Int) i = impl_NameOk.l0 k s (s.size : Int) (wrap64 (i + 1)) := by
  simp only [impl_NameOk.l0]
  rw [if_pos h, if_pos h0]
  generalize impl_NameOk.l0 k s (s.size : Int) (wrap64 (i + 1)) = R
  generalize bt s i = c at hc
  repeat' split
  all_goals first | rfl | (exfalso; omega)
set_option maxHeartbeats 8000000 in
theorem impl_NameOk_l0_no (k : Nat) (s : ByteArray) (i : Int) (h0 : 0 ≤ i) (h : i < (s.size : Int)) (hc : ¬ ((97 ≤ bt s i ∧ bt s i ≤ 122) ∨ (65 ≤ bt s i ∧ bt s i ≤ 90) ∨ bt s i = 95 ∨ (¬ i = 0 ∧ ((48 ≤ bt s i ∧ bt s i ≤ 57) ∨ bt s i = 46 ∨ bt s i = 45)))) :
    impl_NameOk.l0 (k + 1) s (s.size : Int) i = some false := by
  simp only [impl_NameOk.l0]
  rw [if_pos h, if_pos h0]
  generalize impl_NameOk.l0 k s (s.size : Int) (wrap64 (i + 1)) = R
  generalize bt s i = c at hc
  repeat' split
  all_goals first | rfl | (exfalso; omega)
theorem impl_NameOk_l0_at (k : Nat) (s : ByteArray) (i : Int) (h0 : 0 ≤ i) (h : i < (s.size : Int)) :
    impl_NameOk.l0 (k + 1) s (s.size : Int) i = if (97 ≤ bt s i ∧ bt s i ≤ 122) ∨ (65 ≤ bt s i ∧ bt s i ≤ 90) ∨ bt s i = 95 ∨ (¬ i = 0 ∧ ((48 ≤ bt s i ∧ bt s i ≤ 57) ∨ bt s i = 46 ∨ bt s i = 45)) then impl_NameOk.l0 k s (s.size : Int) (wrap64 (i + 1)) else some false := by
  by_cases hc : (97 ≤ bt s i ∧ bt s i ≤ 122) ∨ (65 ≤ bt s i ∧ bt s i ≤ 90) ∨ bt s i = 95 ∨ (¬ i = 0 ∧ ((48 ≤ bt s i ∧ bt s i ≤ 57) ∨ bt s i = 46 ∨ bt s i = 45))
  · rw [if_pos hc]; exact impl_NameOk_l0_yes k s i h0 h hc
  · rw [if_neg hc]; exact impl_NameOk_l0_no k s i h0 h hc
theorem impl_NameOk_l0_ev (s : ByteArray) (hs : s.size ≤ 140737488351232) : ∀ (d n : Nat), 1 ≤ n → n + d = s.size → Ev (fun k => impl_NameOk.l0 k s (s.size : Int) (n : Int)) (((bytesOf s).drop n).all moreB && inR s.size 1 40) := by
  intro d
  induction d with
  | zero =>
    intro n h1 hn
    rw [bytes_drop_end s n (by omega)]
    refine Ev.later fun k => ?_
    simp only [impl_NameOk.l0]
    rw [if_neg (cast_nlt (by omega)), impl_in_eq]
    rfl
  | succ d ih =>
    intro n h1 hn
    rw [bytes_drop s n (by omega), List.all_cons]
    refine Ev.step (f := fun k => if moreB (bt s n) = true then impl_NameOk.l0 k s (s.size : Int) ((n + 1 : Nat) : Int) else some false) (fun k => ?_) ?_
    · rw [impl_NameOk_l0_at k s n (by omega) (cast_lt (by omega)), wrap_succ (n := s.size) (by omega) (cast_lt (by omega)) (by omega)]
      unfold moreB
      by_cases c : (97 ≤ bt s n ∧ bt s n ≤ 122) ∨ (65 ≤ bt s n ∧ bt s n ≤ 90) ∨ bt s n = 95 ∨ (48 ≤ bt s n ∧ bt s n ≤ 57) ∨ bt s n = 46 ∨ bt s n = 45
      · rw [if_pos (by omega), if_pos (decide_eq_true c)]
        rfl
      · rw [if_neg (by omega), if_neg (by rw [decide_eq_false c]; decide)]
    · cases h : moreB (bt s n)
      · simp only [Bool.false_eq_true, if_false, Bool.false_and]
        exact Ev.now _
      · simp only [if_true, Bool.true_and]
        exact ih (n + 1) (by omega) (by omega)
theorem impl_NameOk_ev (s : ByteArray) (hs : s.size ≤ 140737488351232) : Ev (fun k => impl_NameOk.f k s) (nameOk s) := by
  unfold impl_NameOk.f nameOk
  by_cases h1 : s.size = 0
  · rw [decide_eq_false (by omega), Bool.false_and]
    refine Ev.later fun k => ?_
    simp only [impl_NameOk.l0]
    rw [if_neg (by omega), impl_in_eq, Option.bind_some]
    congr 1
    unfold inR
    apply decide_eq_false
    omega
  rw [decide_eq_true (show 1 ≤ s.size by omega), Bool.true_and]
  refine Ev.step (f := fun k => if firstB (bt s 0) = true then impl_NameOk.l0 k s (s.size : Int) ((1 : Nat) : Int) else some false) (fun k => ?_) ?_
  · rw [impl_NameOk_l0_at k s 0 (by omega) (by omega), show wrap64 ((0 : Int) + 1) = ((1 : Nat) : Int) from w64 (by omega) (by omega)]
    unfold firstB
    by_cases c : (97 ≤ bt s 0 ∧ bt s 0 ≤ 122) ∨ (65 ≤ bt s 0 ∧ bt s 0 ≤ 90) ∨ bt s 0 = 95
    · rw [if_pos (by omega), if_pos (decide_eq_true c)]
    · rw [if_neg (by omega), if_neg (by rw [decide_eq_false c]; decide)]
  · cases h : firstB (bt s 0)
    · simp only [Bool.false_eq_true, if_false, Bool.false_and, Bool.and_false]
      exact Ev.now _
    · simp only [if_true, Bool.true_and]
      have := impl_NameOk_l0_ev s hs (s.size - 1) 1 (by omega) (by omega)
      have e : (decide (s.size ≤ 40) && ((bytesOf s).drop 1).all moreB) = (((bytesOf s).drop 1).all moreB && inR s.size 1 40) := by
        have e2 : inR (s.size : Int) 1 40 = decide (s.size ≤ 40) := by
          unfold inR
          rw [Bool.eq_iff_iff]
          simp only [decide_eq_true_eq]
          omega
        rw [e2, Bool.and_comm]
      rw [e]
      exact this
end Go.Proofs.Ytaliphegdclkfaa.PL
