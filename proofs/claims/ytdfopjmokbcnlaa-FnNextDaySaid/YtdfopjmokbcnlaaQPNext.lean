/- The day behind a month's last one. -/
import Derived.Test.YtdfopjmokbcnlaaPQx3
import Derived.Test.YtdfopjmokbcnlaaPQx7
import Derived.Test.YtdfopjmokbcnlaaQPBase
import Derived.Test.YtdfopjmokbcnlaaQPIn
import Derived.Test.YtdfopjmokbcnlaaQPDates
import Derived.Test.YtdfopjmokbcnlaaQPDatesS
import Derived.Test.YtdfopjmokbcnlaaQPYears
namespace Go.Proofs.Ytdfopjmokbcnlaa.PQ
open Go.RowKit Go.Proofs.YtdfopjmokbcnlaaW.PrintWords
set_option linter.unusedVariables false
set_option linter.unusedSimpArgs false
theorem days_l0 (y : Int) (k : Nat) (x1 x2 x3 x4 x5 : Int) (z : Bool) (zo : Int) (a b c d e f : Int) (z2 : Bool) (g a' b' c' d' e' f' : Int) (z3 : Bool) (g' : Int) : ∀ (m n : Nat), n + m = 12 → Ev (fun k => laws_FnNextDay.l0 k (sumD y n) ((n : Int) + 1) y x1 x2 x3 x4 x5 z zo a b c d e f z2 g a' b' c' d' e' f' z3 g') true ∨ ¬ Ev (fun k => laws_FnNextDay.l0 k (sumD y 12) 13 y x1 x2 x3 x4 x5 z zo a b c d e f z2 g a' b' c' d' e' f' z3 g') true := by
  intro m
  by_cases hE : Ev (fun k => laws_FnNextDay.l0 k (sumD y 12) 13 y x1 x2 x3 x4 x5 z zo a b c d e f z2 g a' b' c' d' e' f' z3 g') true
  · induction m with
    | zero =>
      intro n hn
      obtain rfl : n = 12 := by omega
      exact Or.inl hE
    | succ m ih =>
      intro n hn
      rcases ih (n + 1) (by omega) with h | h
      · left
        refine Ev.step (fun k => ?_) h
        have h1 := sumD_range y n
        have h2 := dim_range y ((n : Int) + 1)
        rw [laws_FnNextDay.l0, if_pos (by omega), impl_DaysIn_eq, Option.bind_some, w64 (x := sumD y n + dim y ((n : Int) + 1)) (by omega) (by omega), w64 (x := (n : Int) + 1 + 1) (by omega) (by omega)]
        rfl
      · exact absurd hE h
  · exact fun _ _ => Or.inr hE
theorem dok_mk {y mo d h mi s : Int} {z : Bool} {zo : Int} (h1 : 1 ≤ y ∧ y ≤ 9999) (h2 : 1 ≤ mo ∧ mo ≤ 12) (h3 : 1 ≤ d ∧ d ≤ dim y mo) (h4 : 0 ≤ h ∧ h ≤ 23) (h5 : 0 ≤ mi ∧ mi ≤ 59) (h6 : 0 ≤ s ∧ s ≤ 59) (h7 : -840 ≤ zo ∧ zo ≤ 840) (h8 : z = true ∨ zo = 0) : dok y mo d h mi s z zo = true := by
  unfold dok
  simp only [inR_true.2 h1, inR_true.2 h2, inR_true.2 h3, inR_true.2 h4, inR_true.2 h5, inR_true.2 h6, inR_true.2 h7, Bool.true_and, Bool.or_eq_true, beq_iff_eq]
  exact h8
theorem year_sum {y : Int} (h : 1 ≤ y) (h2 : y ≤ 9999) : sumD y 12 = if leap y = true then 366 else 365 := by
  have hy : inR y 1 9999 = true := inR_true.2 ⟨h, h2⟩
  have d1 : ∀ m : Int, 1 ≤ m → m ≤ 12 → dim y m = if m = 2 then (if leap y = true then 29 else 28) else if m = 4 then 30 else if m = 6 then 30 else if m = 9 then 30 else if m = 11 then 30 else 31 := by
    intro m a b
    unfold dim
    rw [if_pos ⟨hy, inR_true.2 ⟨a, b⟩⟩]
  show 0 + dim y 1 + dim y 2 + dim y 3 + dim y 4 + dim y 5 + dim y 6 + dim y 7 + dim y 8 + dim y 9 + dim y 10 + dim y 11 + dim y 12 = _
  rw [d1 1 (by omega) (by omega), d1 2 (by omega) (by omega), d1 3 (by omega) (by omega), d1 4 (by omega) (by omega), d1 5 (by omega) (by omega), d1 6 (by omega) (by omega), d1 7 (by omega) (by omega), d1 8 (by omega) (by omega), d1 9 (by omega) (by omega), d1 10 (by omega) (by omega), d1 11 (by omega) (by omega), d1 12 (by omega) (by omega)]
  simp only [Int.reduceEq, if_true, if_false]
  split <;> omega
theorem j4_ev {y mo : Int} {z : Bool} {zo : Int} (h1 : 1 ≤ y ∧ y ≤ 9999) (h2 : 1 ≤ mo ∧ mo ≤ 12) (h7 : -840 ≤ zo ∧ zo ≤ 840) (h8 : z = true ∨ zo = 0) (y' mo' : Int) (hn : (mo = 12 ∧ y' = y + 1 ∧ mo' = 1) ∨ (mo < 12 ∧ y' = y ∧ mo' = mo + 1)) :
    Ev (fun k => laws_FnNextDay.j4 k false y mo (dim y mo) 23 59 59 z zo y' mo' 1 0 0 0 z zo) true := by
  have hd := dim_pos h1 h2
  have c0 : dok y mo (dim y mo) 23 59 59 z zo = true := dok_mk h1 h2 (by omega) (by omega) (by omega) (by omega) h7 h8
  by_cases c : y' > 9999
  · exact Ev.later fun k => by rw [laws_FnNextDay.j4, if_neg (by decide), if_pos c]
  have h1' : 1 ≤ y' ∧ y' ≤ 9999 := by omega
  have h2' : 1 ≤ mo' ∧ mo' ≤ 12 := by omega
  have hd' := dim_pos h1' h2'
  have c1 : dok y' mo' 1 0 0 0 z zo = true := dok_mk h1' h2' (by omega) (by omega) (by omega) (by omega) h7 h8
  refine Ev.step (f := fun k => (impl_SecondsOf.f k y' mo' 1 0 0 0 z zo).bind fun t => (impl_SecondsOf.f k y mo (dim y mo) 23 59 59 z zo).bind fun u => some (t == wrap64 (u + 1))) (fun k => by rw [laws_FnNextDay.j4, if_neg (by decide), if_neg c]) ?_
  refine Ev.bind (impl_SecondsOf_ev _ _ _ _ _ _ _ _) (Ev.bind (impl_SecondsOf_ev _ _ _ _ _ _ _ _) ?_)
  unfold sof
  rw [if_pos c0, if_pos c1]
  have hr := secs_range c0
  have e : secs y' mo' 1 0 0 0 zo = secs y mo (dim y mo) 23 59 59 zo + 1 := by
    unfold secs secsF
    rcases hn with ⟨rfl, rfl, rfl⟩ | ⟨hm, rfl, rfl⟩
    · have hy := year_long h1.1 h1.2
      have e1 : sumD y 12 = sumD y 11 + dim y 12 := rfl
      have e2 : sumD (y + 1) ((1 : Int) - 1).toNat = 0 := rfl
      have e3 : ((12 : Int) - 1).toNat = 11 := rfl
      rw [e2, e3]
      omega
    · obtain ⟨n, rfl⟩ : ∃ n : Nat, mo = (n : Int) + 1 := ⟨(mo - 1).toNat, by omega⟩
      have e1 : sumD y' (n + 1) = sumD y' n + dim y' ((n : Int) + 1) := rfl
      have e2 : ((n : Int) + 1 + 1 - 1).toNat = n + 1 := by omega
      have e3 : ((n : Int) + 1 - 1).toNat = n := by omega
      rw [e2, e3, e1]
      omega
  rw [w64 (x := secs y mo (dim y mo) 23 59 59 zo + 1) (by omega) (by omega), e]
  simp only [beq_self_eq_true]
  exact Ev.now _
theorem j3_ev {y mo : Int} {z : Bool} {zo : Int} (h1 : 1 ≤ y ∧ y ≤ 9999) (h2 : 1 ≤ mo ∧ mo ≤ 12) (h7 : -840 ≤ zo ∧ zo ≤ 840) (h8 : z = true ∨ zo = 0) (y' mo' : Int) (hn : (mo = 12 ∧ y' = y + 1 ∧ mo' = 1) ∨ (mo < 12 ∧ y' = y ∧ mo' = mo + 1)) :
    Ev (fun k => laws_FnNextDay.j3 k (sumD y 12) (leap y) y mo (dim y mo) 23 59 59 z zo y' mo' 1 0 0 0 z zo) true := by
  have hd := dim_pos h1 h2
  have c0 : dok y mo (dim y mo) 23 59 59 z zo = true := dok_mk h1 h2 (by omega) (by omega) (by omega) (by omega) h7 h8
  refine Ev.step (fun k => ?_) (j4_ev h1 h2 h7 h8 y' mo' hn)
  rw [laws_FnNextDay.j3, year_sum h1.1 h1.2, impl_DateOk_eq, c0]
  by_cases c : leap y = true
  · simp [c]
  · simp [c]
theorem l0_end {y mo : Int} {z : Bool} {zo : Int} (h1 : 1 ≤ y ∧ y ≤ 9999) (h2 : 1 ≤ mo ∧ mo ≤ 12) (h7 : -840 ≤ zo ∧ zo ≤ 840) (h8 : z = true ∨ zo = 0) (y' mo' : Int) (hn : (mo = 12 ∧ y' = y + 1 ∧ mo' = 1) ∨ (mo < 12 ∧ y' = y ∧ mo' = mo + 1)) (x1 x2 x3 x4 x5 : Int) (zz : Bool) (x7 : Int) :
    Ev (fun k => laws_FnNextDay.l0 k (sumD y 12) 13 y x1 x2 x3 x4 x5 zz x7 y mo (dim y mo) 23 59 59 z zo y' mo' 1 0 0 0 z zo) true := by
  refine Ev.step (fun k => ?_) (j3_ev h1 h2 h7 h8 y' mo' hn)
  rw [laws_FnNextDay.l0, if_neg (by omega)]
  unfold leap
  by_cases c1 : Int.tmod y 4 = 0 <;> by_cases c2 : Int.tmod y 100 = 0 <;> by_cases c3 : Int.tmod y 400 = 0 <;> first | (simp [c1, c2, c3]; done) | (have e : (Int.tmod y 400 == 0) = false := beq_eq_false_iff_ne.mpr c3; simp [c1, c2, c3, e])
theorem j1_ev {y mo : Int} {z : Bool} {zo : Int} (h1 : 1 ≤ y ∧ y ≤ 9999) (h2 : 1 ≤ mo ∧ mo ≤ 12) (h7 : -840 ≤ zo ∧ zo ≤ 840) (h8 : z = true ∨ zo = 0) (y' mo' : Int) (hn : (mo = 12 ∧ y' = y + 1 ∧ mo' = 1) ∨ (mo < 12 ∧ y' = y ∧ mo' = mo + 1)) (x1 x2 x3 x4 x5 : Int) (zz : Bool) (x7 : Int) :
    Ev (fun k => laws_FnNextDay.j1 k y x1 x2 x3 x4 x5 zz x7 y mo (dim y mo) 23 59 59 z zo y' mo' 1 0 0 0 z zo) true := by
  have hE := l0_end h1 h2 h7 h8 y' mo' hn x1 x2 x3 x4 x5 zz x7
  rcases days_l0 y 0 x1 x2 x3 x4 x5 zz x7 y mo (dim y mo) 23 59 59 z zo y' mo' 1 0 0 0 z zo 12 0 (by omega) with h | h
  · exact Ev.step (fun k => by rw [laws_FnNextDay.j1]; rfl) h
  · exact absurd hE h
end Go.Proofs.Ytdfopjmokbcnlaa.PQ
