/- Dates that have an order have the other one turned round; with zones, or without, it is that of their seconds, for every two drawn dates. No condition. -/
import Derived.Test.YtdfopjmokbcnlaaPVx3
import Derived.Test.YtdfopjmokbcnlaaPVx6
import Derived.Test.YtdfopjmokbcnlaaPVx7
import Derived.Test.YtdfopjmokbcnlaaVPDates
import Derived.Test.YtdfopjmokbcnlaaVPDatesI
import Derived.Test.YtdfopjmokbcnlaaVPDatesC
import Derived.Test.YtdfopjmokbcnlaaVPDrawDate
import Derived.Test.YtdfopjmokbcnlaaVPOrder
namespace Go.Proofs.Ytdfopjmokbcnlaa.Pure
open Go.RowKit Go.Proofs.Ytdfopjmokbcnlaa.PV Go.Proofs.YtdfopjmokbcnlaaW.PrintWords Go.Proofs.YtdfopjmokbcnlaaW.PrintLast
set_option linter.unusedVariables false
set_option linter.unusedSimpArgs false
theorem FnDateOrder : laws_FnDateOrder.Pure := by
  intro l _ hl hw
  refine Ev.rounds (r := true) ?_
  unfold laws_FnDateOrder.f laws_big.f
  simp only [Option.bind_some]
  by_cases c : (l.length : Int) > 1048576
  · simp only [c, decide_true, if_true]
    exact Ev.now _
  simp only [c, decide_false, Bool.false_eq_true, if_false]
  have hD : ∃ (y mo d h mi s : Int) (z : Bool) (zo y' mo' d' h' mi' s' : Int) (z' : Bool) (zo' : Int), Ev (fun k => spec_DrawCompareDate.f k l) (y, mo, d, h, mi, s, z, zo, y', mo', d', h', mi', s', z', zo') := by
    obtain ⟨⟨y, mo, d, h, mi, s, z, zo, p⟩, hr, hd⟩ := date_ev (Rd.start hl hw)
    obtain ⟨⟨y', mo', d', h', mi', s', z', zo', p'⟩, hr', hd'⟩ := date_ev (p := p) hr
    obtain ⟨q1, p1, e1, r1⟩ := once_b (p := p') hr' 2 (by omega)
    obtain ⟨v2, p2, e2, a2, b2, r2⟩ := below_some r1 4 (by omega)
    obtain ⟨q3, p3, e3, r3⟩ := once_b r2 2 (by omega)
    have l2 : v2 < (([0, 23, 12, 5] : List Int).length : Int) := b2
    unfold spec_DrawCompareDate.f
    simp only [l1Open_eq, Option.bind_some]
    by_cases c1 : q1 = true
    · by_cases c3 : q3 = true
      · refine ⟨y, mo, d, h, mi, s, z, zo, y, mo, d, rd ([0, 23, 12, 5] : List Int) v2, mi, s, !z, 0, Ev.bind (a := (y, mo, d, h, mi, s, z, zo, p)) hd (Ev.bind (a := (y', mo', d', h', mi', s', z', zo', p')) hd' ?_)⟩
        simp only [e1, Option.bind_some, c1, if_true, e2, if_pos a2, if_pos l2, e3, c3]
        exact Ev.now _
      · refine ⟨y, mo, d, h, mi, s, z, zo, y, mo, d, rd ([0, 23, 12, 5] : List Int) v2, mi, s, z, zo, Ev.bind (a := (y, mo, d, h, mi, s, z, zo, p)) hd (Ev.bind (a := (y', mo', d', h', mi', s', z', zo', p')) hd' ?_)⟩
        simp only [e1, Option.bind_some, c1, if_true, e2, if_pos a2, if_pos l2, e3, c3, if_false]
        exact Ev.now _
    · refine ⟨y, mo, d, h, mi, s, z, zo, y', mo', d', h', mi', s', z', zo', Ev.bind (a := (y, mo, d, h, mi, s, z, zo, p)) hd (Ev.bind (a := (y', mo', d', h', mi', s', z', zo', p')) hd' ?_)⟩
      simp only [e1, Option.bind_some, c1, if_false]
      exact Ev.now _
  obtain ⟨y, mo, d, h, mi, s, z, zo, y', mo', d', h', mi', s', z', zo', hD⟩ := hD
  refine Ev.bind hD (Ev.bind (impl_CompareDate_ev y mo d h mi s z zo y' mo' d' h' mi' s' z' zo') (Ev.bind (impl_CompareDate_ev y' mo' d' h' mi' s' z' zo' y mo d h mi s z zo) (Ev.bind (spec_CompareDate_ev y mo d h mi s z zo y' mo' d' h' mi' s' z' zo') ?_)))
  simp only [if_true]
  exact order_j0 y mo d h mi s z zo y' mo' d' h' mi' s' z' zo'
end Go.Proofs.Ytdfopjmokbcnlaa.Pure
