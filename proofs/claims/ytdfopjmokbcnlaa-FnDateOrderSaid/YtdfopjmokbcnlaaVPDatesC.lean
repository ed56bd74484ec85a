import Derived.Test.YtdfopjmokbcnlaaPVx2
import Derived.Test.YtdfopjmokbcnlaaPVx3
import Derived.Test.YtdfopjmokbcnlaaVPBase
import Derived.Test.YtdfopjmokbcnlaaVPIn
import Derived.Test.YtdfopjmokbcnlaaVPDates
namespace Go.Proofs.Ytdfopjmokbcnlaa.PV
open Go.RowKit Go.Proofs.YtdfopjmokbcnlaaW.PrintWords
set_option linter.unusedVariables false
set_option linter.unusedSimpArgs false
/- Comparisons of dates. -/
def cmpI (x : Int) : Int := if x < 0 then -1 else if x > 0 then 1 else 0
def cmpD (y mo d h mi s : Int) (z : Bool) (zo : Int) (y' mo' d' h' mi' s' : Int) (z' : Bool) (zo' : Int) : Int :=
  if dok y mo d h mi s z zo = true ∧ dok y' mo' d' h' mi' s' z' zo' = true then
    (if (z == z') = true then cmpI (secs y mo d h mi s zo - secs y' mo' d' h' mi' s' zo') else if secs y mo d h mi s zo - secs y' mo' d' h' mi' s' zo' < -50400 then -1 else if secs y mo d h mi s zo - secs y' mo' d' h' mi' s' zo' > 50400 then 1 else 2)
  else 3
theorem spec_l5Sign_eq (x : Int) : spec_l5Sign.f x = some (cmpI x) := by
  unfold spec_l5Sign.f cmpI
  repeat' split
  all_goals rfl
theorem cmp_Compare_eq (x : Int) : cmp_Compare_int64.f x 0 = some (cmpI x) := by
  unfold cmp_Compare_int64.f cmp_isNaN_int64.f cmpI
  simp only [Option.bind_some, bne_self_eq_false, Bool.false_eq_true, if_false]
  repeat' split
  all_goals rfl
theorem spec_CompareDate_ev (y mo d h mi s : Int) (z : Bool) (zo : Int) (y' mo' d' h' mi' s' : Int) (z' : Bool) (zo' : Int) :
    Ev (fun k => spec_CompareDate.f k y mo d h mi s z zo y' mo' d' h' mi' s' z' zo') (cmpD y mo d h mi s z zo y' mo' d' h' mi' s' z' zo') := by
  unfold spec_CompareDate.f cmpD
  refine Ev.bind (spec_DateOk_ev y mo d h mi s z zo) ?_
  by_cases c : dok y mo d h mi s z zo = true
  · simp only [c, if_true, true_and]
    refine Ev.bind (spec_DateOk_ev y' mo' d' h' mi' s' z' zo') ?_
    by_cases c' : dok y' mo' d' h' mi' s' z' zo' = true
    · simp only [c', if_true]
      unfold spec_l5Compare.f
      refine Ev.bind (a := _) ?_ (Ev.now _)
      refine Ev.bind (spec_l5Seconds_ev c) (Ev.bind (spec_l5Seconds_ev c') ?_)
      have r1 := secs_range c
      have r2 := secs_range c'
      simp only [w64 (x := secs y mo d h mi s zo - secs y' mo' d' h' mi' s' zo') (by omega) (by omega), spec_l5Sign_eq, Option.bind_some]
      refine Ev.const fun _ => ?_
      repeat' split
      all_goals rfl
    · simp only [c', if_false]
      exact Ev.now _
  · simp only [c, if_false, false_and]
    exact Ev.now _
theorem impl_CompareDate_ev (y mo d h mi s : Int) (z : Bool) (zo : Int) (y' mo' d' h' mi' s' : Int) (z' : Bool) (zo' : Int) :
    Ev (fun k => impl_CompareDate.f k y mo d h mi s z zo y' mo' d' h' mi' s' z' zo') (cmpD y mo d h mi s z zo y' mo' d' h' mi' s' z' zo') := by
  unfold impl_CompareDate.f cmpD
  simp only [impl_DateOk_eq, Option.bind_some]
  by_cases c : dok y mo d h mi s z zo = true
  · simp only [c, if_true, true_and]
    by_cases c' : dok y' mo' d' h' mi' s' z' zo' = true
    · simp only [c', if_true, Bool.not_true]
      refine Ev.step (f := fun k => _) (fun k => by simp only [impl_CompareDate.j0, Bool.false_eq_true, if_false]; rfl) ?_
      refine Ev.bind (impl_Date_seconds_ev c) (Ev.bind (impl_Date_seconds_ev c') ?_)
      have r1 := secs_range c
      have r2 := secs_range c'
      simp only [w64 (x := secs y mo d h mi s zo - secs y' mo' d' h' mi' s' zo') (by omega) (by omega), cmp_Compare_eq, Option.bind_some]
      refine Ev.const fun _ => ?_
      repeat' split
      all_goals rfl
    · simp only [c', Bool.not_eq_true] at c' ⊢
      simp only [c', Bool.not_false, Bool.false_eq_true, if_false]
      exact Ev.later fun k => by simp only [impl_CompareDate.j0, if_true]
  · simp only [c, if_false, false_and]
    exact Ev.later fun k => by simp [impl_CompareDate.j0]
end Go.Proofs.Ytdfopjmokbcnlaa.PV
