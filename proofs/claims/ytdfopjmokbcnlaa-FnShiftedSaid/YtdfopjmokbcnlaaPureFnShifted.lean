/- A date in another zone is the same moment, and in its own one as it was, for every drawn date and zone. No condition. -/
import Derived.Test.YtdfopjmokbcnlaaPFx3
import Derived.Test.YtdfopjmokbcnlaaPFx9
import Derived.Test.YtdfopjmokbcnlaaPFx10
import Derived.Test.YtdfopjmokbcnlaaFPDates
import Derived.Test.YtdfopjmokbcnlaaFPDatesI
import Derived.Test.YtdfopjmokbcnlaaFPDatesCI
import Derived.Test.YtdfopjmokbcnlaaFPShift
import Derived.Test.YtdfopjmokbcnlaaFPDrawDate
import Derived.Test.YtdfopjmokbcnlaaFPTurn
namespace Go.Proofs.Ytdfopjmokbcnlaa.Pure
open Go.RowKit Go.Proofs.Ytdfopjmokbcnlaa.PF Go.Proofs.YtdfopjmokbcnlaaW.PrintWords Go.Proofs.YtdfopjmokbcnlaaW.PrintLast
set_option linter.unusedVariables false
set_option linter.unusedSimpArgs false
theorem FnShifted : laws_FnShifted.Pure := by
  intro l _ hl hw
  refine Ev.rounds (r := true) ?_
  unfold laws_FnShifted.f laws_big.f
  simp only [Option.bind_some]
  by_cases c : (l.length : Int) > 1048576
  · simp only [c, decide_true, if_true]
    exact Ev.now _
  simp only [c, decide_false, Bool.false_eq_true, if_false]
  obtain ⟨⟨y, mo, d, h, mi, s, z, zo, p⟩, hr, hd⟩ := date_ev (Rd.start hl hw)
  obtain ⟨zone, p', hr', ho⟩ := off_ev (p := p) hr (-840) 840 (by omega) (by omega) (by omega)
  have hD : Ev (fun k => spec_DrawShifted.f k l) (y, mo, d, h, mi, s, z, zo, zone) := by
    unfold spec_DrawShifted.f
    simp only [l1Open_eq, Option.bind_some]
    exact Ev.bind (a := (y, mo, d, h, mi, s, z, zo, p)) hd (Ev.bind (a := (zone, p')) ho (Ev.now _))
  refine Ev.bind hD (Ev.bind (impl_Shifted_ev y mo d h mi s z zo zone) (Ev.bind (spec_Shifted_ev y mo d h mi s z zo zone) ?_))
  have bad : Ev (fun k => laws_FnShifted.j0 k zone false false true y mo d h mi s z zo 0 0 0 0 0 0 false 0 0 0 0 0 0 0 false 0) true := Ev.later fun k => by rw [laws_FnShifted.j0]; simp
  simp only [beq_self_eq_true, Bool.not_true, Bool.or_false, Bool.or_self, Bool.false_eq_true, if_false, bne_self_eq_false]
  by_cases c0 : dok y mo d h mi s z zo = true ∧ z = true ∧ inR zone (-840) 840 = true
  · obtain ⟨c1, rfl, c3⟩ := c0
    have hz := inR_bd c3
    by_cases c4 : secs y mo d h mi s zo + 60 * zone < 0 ∨ secs y mo d h mi s zo + 60 * zone ≥ 315537897600
    · have e : shiftF y mo d h mi s true zo zone = noDate := by
        unfold shiftF
        rw [if_pos ⟨c1, rfl, c3⟩]
        unfold foundF
        rw [if_pos c4]
      rw [e]
      exact bad
    · obtain ⟨y2, mo2, d2, h2, mi2, s2, hf, hok, hs⟩ := found_ok hz c4
      have e : shiftF y mo d h mi s true zo zone = (y2, mo2, d2, h2, mi2, s2, true, zone, true) := by
        unfold shiftF
        rw [if_pos ⟨c1, rfl, c3⟩]
        exact hf
      have hs2 : secs y2 mo2 d2 h2 mi2 s2 zone = secs y mo d h mi s zo := by rw [hs]; omega
      have hzo := (dok_parts c1).2.2.2.2.2.2.1
      have eb : shiftF y2 mo2 d2 h2 mi2 s2 true zone zo = (y, mo, d, h, mi, s, true, zo, true) := by
        unfold shiftF
        rw [if_pos ⟨hok, rfl, inR_true.2 hzo⟩, hs2]
        exact found_self c1
      have ec : cmpD y2 mo2 d2 h2 mi2 s2 true zone y mo d h mi s true zo = 0 := by
        unfold cmpD
        rw [if_pos ⟨hok, c1⟩, hs2]
        simp [cmpI]
      rw [e]
      show Ev (fun k => laws_FnShifted.j0 k zone true true false y mo d h mi s true zo y2 mo2 d2 h2 mi2 s2 true zone y2 mo2 d2 h2 mi2 s2 true zone) true
      refine Ev.step (f := fun k => _) (fun k => by rw [laws_FnShifted.j0, if_neg (by decide)]) ?_
      refine Ev.bind (impl_Shifted_ev y2 mo2 d2 h2 mi2 s2 true zone zo) ?_
      rw [eb, impl_DateOk_eq, hok]
      simp only [Option.bind_some, if_true]
      refine Ev.bind (impl_SecondsOf_ev _ _ _ _ _ _ _ _) (Ev.bind (impl_SecondsOf_ev _ _ _ _ _ _ _ _) ?_)
      unfold sof
      rw [if_pos hok, if_pos c1]
      simp only [if_pos hs2]
      refine Ev.bind (impl_CompareDate_ev _ _ _ _ _ _ _ _ _ _ _ _ _ _ _ _) ?_
      rw [ec]
      simp only [if_true, beq_self_eq_true, Bool.and_self]
      exact Ev.now _
  · have e : shiftF y mo d h mi s z zo zone = noDate := by
      unfold shiftF
      rw [if_neg c0]
    rw [e]
    exact bad
end Go.Proofs.Ytdfopjmokbcnlaa.Pure
