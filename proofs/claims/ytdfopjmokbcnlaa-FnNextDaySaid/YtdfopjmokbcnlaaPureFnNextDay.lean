/- The day behind a month's last one is the next month's first, just so many seconds later, and a year has 365 or 366 days, for every drawn date. No condition. -/
import Derived.Test.YtdfopjmokbcnlaaPQx3
import Derived.Test.YtdfopjmokbcnlaaPQx6
import Derived.Test.YtdfopjmokbcnlaaPQx7
import Derived.Test.YtdfopjmokbcnlaaQPDates
import Derived.Test.YtdfopjmokbcnlaaQPDatesS
import Derived.Test.YtdfopjmokbcnlaaQPDrawDate
import Derived.Test.YtdfopjmokbcnlaaQPNext
namespace Go.Proofs.Ytdfopjmokbcnlaa.Pure
open Go.RowKit Go.Proofs.Ytdfopjmokbcnlaa.PQ Go.Proofs.YtdfopjmokbcnlaaW.PrintWords Go.Proofs.YtdfopjmokbcnlaaW.PrintLast
set_option linter.unusedVariables false
set_option linter.unusedSimpArgs false
theorem FnNextDay : laws_FnNextDay.Pure := by
  intro l _ hl hw
  refine Ev.rounds (r := true) ?_
  unfold laws_FnNextDay.f laws_big.f
  simp only [Option.bind_some]
  by_cases c : (l.length : Int) > 1048576
  · simp only [c, decide_true, if_true]
    exact Ev.now _
  simp only [c, decide_false, Bool.false_eq_true, if_false]
  obtain ⟨⟨y, mo, d, h, mi, s, z, zo, p⟩, _, hd⟩ := date_ev (Rd.start hl hw)
  have hD : Ev (fun k => spec_DrawSecondsOf.f k l) (y, mo, d, h, mi, s, z, zo) := by
    unfold spec_DrawSecondsOf.f
    simp only [l1Open_eq, Option.bind_some]
    exact Ev.bind (a := (y, mo, d, h, mi, s, z, zo, p)) hd (Ev.now _)
  refine Ev.bind hD (Ev.bind (impl_SecondsOf_ev y mo d h mi s z zo) (Ev.bind (spec_SecondsOf_ev y mo d h mi s z zo) ?_))
  simp only [if_true]
  refine Ev.bind (spec_DateOk_ev y mo d h mi s z zo) ?_
  by_cases c0 : dok y mo d h mi s z zo = true
  · simp only [c0, Bool.not_true]
    obtain ⟨c1, c2, c3, c4, c5, c6, c7, c8⟩ := dok_parts c0
    by_cases c9 : mo = 12
    · refine Ev.step (fun k => ?_) (j1_ev (y := y) (mo := mo) (z := z) (zo := zo) c1 c2 c7 c8 (y + 1) 1 (Or.inl ⟨c9, rfl, rfl⟩) mo d h mi s z zo)
      rw [laws_FnNextDay.j0, if_neg (by decide), impl_DaysIn_eq, Option.bind_some, if_pos c9, w64 (x := y + 1) (by omega) (by omega)]
    · refine Ev.step (fun k => ?_) (j1_ev (y := y) (mo := mo) (z := z) (zo := zo) c1 c2 c7 c8 y (mo + 1) (Or.inr ⟨by omega, rfl, rfl⟩) mo d h mi s z zo)
      rw [laws_FnNextDay.j0, if_neg (by decide), impl_DaysIn_eq, Option.bind_some, if_neg c9, w64 (x := mo + 1) (by omega) (by omega)]
  · simp only [Bool.not_eq_true] at c0
    simp only [c0, Bool.not_false]
    refine Ev.step (f := fun k => (spec_SecondsOf.f k y mo d h mi s z zo).bind fun t => some (sof y mo d h mi s z zo == t)) (fun k => by rw [laws_FnNextDay.j0, if_pos rfl]) ?_
    refine Ev.bind (spec_SecondsOf_ev y mo d h mi s z zo) ?_
    simp only [beq_self_eq_true]
    exact Ev.now _
end Go.Proofs.Ytdfopjmokbcnlaa.Pure
